import Derived.Test.YtbpmfdpbgcpjeaaGCat13
set_option linter.unusedSimpArgs false
set_option linter.unusedVariables false
namespace Go.Abs.C
open Go Go.Abs Go.Proofs
attribute [local irreducible] IntKind.wrap

theorem CatP.names {l : Is} {last : Int} (p : CatP l last) : ∀ x ∈ l, x.b.size ≤ 6 := by
  intro x hx
  obtain ⟨k, hk, rfl⟩ := List.mem_iff_getElem.1 hx
  have := (p.at_ k hk).ok
  rw [ia_lt hk] at this
  unfold itemOk nameOk at this
  simp only [Bool.and_eq_true] at this
  have := (inR_iff.1 this.2.1.2).2
  omega
theorem catNil : CatP [] 0 := ⟨by decide, by decide, fun i hi => by simp at hi, by decide, by decide⟩
theorem vloop_indN {P : Program} {ι : Type} (M : FuncId → Bool) (ts : List Tmp) {c : Code} {Q : Exit → Nat → St → Prop} (n0 : ι → Nat) (S : ι → St) (I : ι → Prop) (m : ι → Nat)
    (round : ∀ i, I i → vcode P M c (andThen (fun _ s => atHead s ts fun n1 s1 => ∃ j, n1 = n0 j ∧ s1 = S j ∧ I j ∧ m j < m i) Q) (n0 i) (S i)) : ∀ i, I i → VLoop P c Q (n0 i) (S i) :=
  have key : ∀ k i, m i = k → I i → ALoop P c Q (n0 i) (S i) := by
    intro k
    induction k using Nat.strongRecOn with
    | _ k ih =>
      intro i hk hi
      refine aloop_step ((vcode_sound c (round i hi)).mono (andThen_mono ?_))
      intro n s hh
      obtain ⟨n1, s1, hs, j, rfl, rfl, hj, hlt⟩ := atHead_sub hh
      exact ALoop.sub hs.1 (ih (m j) (hk ▸ hlt) j rfl hj)
  fun i hi => ⟨key _ i rfl hi⟩
def nms : List ByteArray := [⟨#[97]⟩, ⟨#[98]⟩, ⟨#[99, 99]⟩, ⟨#[100]⟩]
theorem nms_size : ∀ s ∈ nms, s.size ≤ 2 := by decide
set_option maxHeartbeats 16000000 in
set_option maxRecDepth 100000 in
theorem l15Cat_ok (bs : List Int) (p0 : Int) (hb : Bytes bs) (h0 : 0 ≤ p0) (h1 : p0 < 1000) :
    ∃ r out, ((∃ q, 0 ≤ q ∧ q ≤ p0 + 4000 ∧ r = noCat ∧ out = [rdB bs q]) ∨ (∃ (l : Is) (last q : Int), CatP l last ∧ 0 ≤ q ∧ q ≤ p0 + 4000 ∧ r = .agg [.p (.lit (.int .i64 last)), .hs 1 0 l.length] ∧ out = [rdB bs q, .arr 4 (l.map encItem)])) ∧ Good Try.prog 73 [.one (.hp 0 0 0)] [rdB bs p0] r out := by
  refine good_v noM Try.func73 rfl rfl ?_
  conv => whnf
  obtain ⟨_, _, ⟨v, hv0, hv1, rfl, rfl⟩, hg⟩ := pick_ok bs p0 10 hb.rng hb.len h0 (by omega) (by omega) (by omega)
  refine .mk _ _ false Try.call52 hg (Nat.le_of_ble_eq_true rfl) (.inl rfl) ?_
  conv => whnf
  refine VLoop.enter [0, 2, 3, 4] ?_
  conv => whnf
  refine vloop_indN noM [0, 2, 3, 4] (ι := (Int × Int) ⊕ (Int × Int × Int × Is)) (fun i => match i with | .inl _ => 3 | .inr _ => 4)
    (fun i => match i with
      | .inl (a, q) => ⟨41, 1, [(0, .one (.hp 0 0 0)), (2, .one (.hp 1 0 0)), (3, .one (.hp 2 0 0)), (4, vint a)], [(0, some (rdB bs q)), (1, some (.box [.p (.lit (.int .i64 0)), .p (.lit (.slice none 0 0))])), (2, some (.box [.p (.lit (.int .i64 0)), .p (.lit (.slice none 0 0))]))]⟩
      | .inr (a, q, last, l) => ⟨41, 1, [(0, .one (.hp 0 0 0)), (2, .one (.hp 1 0 0)), (3, .one (.hp 2 0 0)), (4, vint a)], [(0, some (rdB bs q)), (1, some (.box [.p (.lit (.int .i64 0)), .p (.lit (.slice none 0 0))])), (2, some (.box [.p (.lit (.int .i64 last)), .hs 3 0 l.length])), (3, some (.arr 4 (l.map encItem)))]⟩)
    (fun i => match i with
      | .inl (a, q) => 0 ≤ a ∧ a < 10 ∧ 0 ≤ q ∧ q + 310 * a ≤ p0 + 3500
      | .inr (a, q, last, l) => 0 ≤ a ∧ a < 10 ∧ 0 ≤ q ∧ q + 310 * a ≤ p0 + 3500 ∧ CatP l last)
    (fun i => match i with | .inl (a, _) => a.toNat | .inr (a, _, _, _) => a.toNat) ?_ (.inl (v, p0 + 1)) ⟨by omega, by omega, by omega, by omega⟩
  rintro (⟨a, q⟩ | ⟨a, q, last, l⟩)
  · rintro ⟨ha0, ha1, hq0, hq1⟩
    have p := catNil
    have hw : ∀ x : Int, 0 ≤ x → x < 2000 → IntKind.i64.wrap x = x := fun x h1 h2 => wi _ (by omega) (by omega)
    have hsn : ∀ x ∈ ([] : Is), x.b.size ≤ 9223372036854775807 := fun x hx => Nat.le_trans (p.names x hx) (by decide)
    conv => whnf
    split
    · rename_i k1
      have k1' := of_decide_eq_true k1
      have hwa := hw (a - 1) (by omega) (by omega)
      conv => whnf
      refine ⟨Nat.le_refl 4, ?_⟩
      conv => whnf
      obtain ⟨_, _, ⟨s, hs, rfl, rfl⟩, hg1⟩ := of_ok bs q nms hb hq0 (by omega) (by decide) (by decide)
      have hs2 := nms_size s hs
      refine .mk _ _ true Try.call58 hg1 (Nat.le_of_ble_eq_true rfl) (fun b hb => by cases List.mem_singleton.1 hb; exact Nat.le_of_ble_eq_true rfl) ?_
      conv => whnf
      obtain ⟨_, _, ⟨v2, hv20, hv21, rfl, rfl⟩, hg2⟩ := pick_ok bs (q + 1) 4 hb.rng hb.len (by omega) (by omega) (by omega) (by omega)
      refine .mk _ _ false Try.call52 hg2 (Nat.le_of_ble_eq_true rfl) (.inl rfl) ?_
      conv => whnf
      obtain ⟨_, _, ⟨v3, hv30, hv31, rfl, rfl⟩, hg3⟩ := pick_ok bs (q + 1 + 1) 2 hb.rng hb.len (by omega) (by omega) (by omega) (by omega)
      split
      · conv => whnf
        refine VDraw.go ⟨75, [0, 0, 2, 0, 15, 31, 63, 63, 127], [2, 4, 8], [(2, [0]), (8, [2])]⟩ rfl rfl (by decide +kernel) ?_
        conv => whnf
        refine .mk _ _ false Try.call52 hg3 (Nat.le_of_ble_eq_true rfl) (.inl rfl) ?_
        conv => whnf
        refine .mk _ _ false Try.call26 (good_nil (specTake_ok [] 0 v3 s hsn p)) (Nat.le_of_ble_eq_true rfl) (.inl rfl) ?_
        conv => whnf
        exact ⟨.inr (IntKind.i64.wrap (a - 1), q + 1 + 1 + 1, (takeC [] 0 v3 s).2.1, (takeC [] 0 v3 s).1), rfl, rfl, ⟨by omega, by omega, by omega, by omega, takeC_keeps p⟩, by show (IntKind.i64.wrap (a - 1)).toNat < a.toNat; omega⟩
      · conv => whnf
        refine VDraw.go ⟨75, [0, 0, 2, 0, 0, 0, 38, 102, 246, 511, 1023, 2047, 2047, 4095], [2, 6, 8, 9, 13], [(2, [0]), (6, [0]), (8, [0]), (13, [2])]⟩ rfl rfl (by decide +kernel) ?_
        conv => whnf
        refine .mk _ _ false Try.call52 hg3 (Nat.le_of_ble_eq_true rfl) (.inl rfl) ?_
        conv => whnf
        obtain ⟨_, _, ⟨v4, hv40, hv41, rfl, rfl⟩, hg4⟩ := pick_ok bs (q + 1 + 1 + 1) 300 hb.rng hb.len (by omega) (by omega) (by omega) (by omega)
        refine .mk _ _ false Try.call52 hg4 (Nat.le_of_ble_eq_true rfl) (.inl rfl) ?_
        conv => whnf
        rw [hw (1 + v4) (by omega) (by omega)]
        obtain ⟨_, _, ⟨t, ht, rfl, rfl⟩, hg5⟩ := l15Thing_ok bs (q + 1 + 1 + 1 + 1) (1 + v4) hb (by omega) (by omega) (by omega) (by omega)
        refine .mk _ _ false Try.call80 hg5 (Nat.le_of_ble_eq_true rfl) (.inl rfl) ?_
        conv => whnf
        refine .mk _ _ false Try.call32 (good_nil (specPut_ok [] 0 v3 s t hsn (by omega) p)) (Nat.le_of_ble_eq_true rfl) (.inl rfl) ?_
        conv => whnf
        exact ⟨.inr (IntKind.i64.wrap (a - 1), q + 1 + 1 + 1 + 1 + (1 + v4), (putC [] 0 v3 s t).2.1, (putC [] 0 v3 s t).1), rfl, rfl, ⟨by omega, by omega, by omega, by omega, putC_keeps p⟩, by show (IntKind.i64.wrap (a - 1)).toNat < a.toNat; omega⟩
    · rename_i k1
      conv => whnf
      refine ⟨⟨⟨by decide +kernel, Nat.le_of_ble_eq_true rfl⟩, trivial⟩, ?_⟩
      conv => whnf
      exact .inl ⟨q, hq0, by omega, rfl, rfl⟩
  · rintro ⟨ha0, ha1, hq0, hq1, p⟩
    have hw : ∀ x : Int, 0 ≤ x → x < 2000 → IntKind.i64.wrap x = x := fun x h1 h2 => wi _ (by omega) (by omega)
    have hsn : ∀ x ∈ l, x.b.size ≤ 9223372036854775807 := fun x hx => Nat.le_trans (p.names x hx) (by decide)
    conv => whnf
    split
    · rename_i k1
      have k1' := of_decide_eq_true k1
      have hwa := hw (a - 1) (by omega) (by omega)
      conv => whnf
      refine ⟨Nat.le_refl 4, ?_⟩
      conv => whnf
      obtain ⟨_, _, ⟨s, hs, rfl, rfl⟩, hg1⟩ := of_ok bs q nms hb hq0 (by omega) (by decide) (by decide)
      have hs2 := nms_size s hs
      refine .mk _ _ true Try.call58 hg1 (Nat.le_of_ble_eq_true rfl) (fun b hb => by cases List.mem_singleton.1 hb; exact Nat.le_of_ble_eq_true rfl) ?_
      conv => whnf
      obtain ⟨_, _, ⟨v2, hv20, hv21, rfl, rfl⟩, hg2⟩ := pick_ok bs (q + 1) 4 hb.rng hb.len (by omega) (by omega) (by omega) (by omega)
      refine .mk _ _ false Try.call52 hg2 (Nat.le_of_ble_eq_true rfl) (.inl rfl) ?_
      conv => whnf
      obtain ⟨_, _, ⟨v3, hv30, hv31, rfl, rfl⟩, hg3⟩ := pick_ok bs (q + 1 + 1) 2 hb.rng hb.len (by omega) (by omega) (by omega) (by omega)
      split
      · conv => whnf
        refine VDraw.go ⟨76, [0, 0, 2, 0, 15, 31, 63, 63, 127], [2, 4, 8], [(2, [0]), (8, [2])]⟩ rfl rfl (by decide +kernel) ?_
        conv => whnf
        refine .mk _ _ false Try.call52 hg3 (Nat.le_of_ble_eq_true rfl) (.inl rfl) ?_
        conv => whnf
        refine ⟨(show 0 + l.length ≤ (l.map encItem).length by rw [List.length_map]; omega), ?_⟩
        conv => whnf
        refine .mk _ _ false Try.call26 (by have := specTake_ok l last v3 s hsn p; rw [← sub_cat (l := l) (n := l.length) rfl] at this; exact this) (Nat.le_of_ble_eq_true rfl) (.inr ⟨AV.nsB_iff rfl, arr_noSl _⟩) ?_
        conv => whnf
        exact ⟨.inr (IntKind.i64.wrap (a - 1), q + 1 + 1 + 1, (takeC l last v3 s).2.1, (takeC l last v3 s).1), rfl, rfl, ⟨by omega, by omega, by omega, by omega, takeC_keeps p⟩, by show (IntKind.i64.wrap (a - 1)).toNat < a.toNat; omega⟩
      · conv => whnf
        refine VDraw.go ⟨76, [0, 0, 2, 0, 0, 0, 38, 102, 246, 511, 1023, 2047, 2047, 4095], [2, 6, 8, 9, 13], [(2, [0]), (6, [0]), (8, [0]), (13, [2])]⟩ rfl rfl (by decide +kernel) ?_
        conv => whnf
        refine .mk _ _ false Try.call52 hg3 (Nat.le_of_ble_eq_true rfl) (.inl rfl) ?_
        conv => whnf
        obtain ⟨_, _, ⟨v4, hv40, hv41, rfl, rfl⟩, hg4⟩ := pick_ok bs (q + 1 + 1 + 1) 300 hb.rng hb.len (by omega) (by omega) (by omega) (by omega)
        refine .mk _ _ false Try.call52 hg4 (Nat.le_of_ble_eq_true rfl) (.inl rfl) ?_
        conv => whnf
        rw [hw (1 + v4) (by omega) (by omega)]
        obtain ⟨_, _, ⟨t, ht, rfl, rfl⟩, hg5⟩ := l15Thing_ok bs (q + 1 + 1 + 1 + 1) (1 + v4) hb (by omega) (by omega) (by omega) (by omega)
        refine .mk _ _ false Try.call80 hg5 (Nat.le_of_ble_eq_true rfl) (.inl rfl) ?_
        conv => whnf
        refine ⟨(show 0 + l.length ≤ (l.map encItem).length by rw [List.length_map]; omega), ?_⟩
        conv => whnf
        refine .mk _ _ false Try.call32 (by have := specPut_ok l last v3 s t hsn (by omega) p; rw [← sub_cat (l := l) (n := l.length) rfl] at this; exact this) (Nat.le_of_ble_eq_true rfl) (.inr ⟨AV.nsB_iff rfl, arr_noSl _⟩) ?_
        conv => whnf
        exact ⟨.inr (IntKind.i64.wrap (a - 1), q + 1 + 1 + 1 + 1 + (1 + v4), (putC l last v3 s t).2.1, (putC l last v3 s t).1), rfl, rfl, ⟨by omega, by omega, by omega, by omega, putC_keeps p⟩, by show (IntKind.i64.wrap (a - 1)).toNat < a.toNat; omega⟩
    · rename_i k1
      conv => whnf
      refine ⟨⟨⟨by decide +kernel, Nat.le_of_ble_eq_true rfl⟩, trivial⟩, ?_⟩
      conv => whnf
      exact .inr ⟨l, last, q, p, hq0, by omega, rfl, rfl⟩
end Go.Abs.C
