import Derived.Test.YtbpmfdpbgcpjeaaGCat5
set_option linter.unusedSimpArgs false
set_option linter.unusedVariables false
namespace Go.Abs.C
open Go Go.Abs Go.Proofs
attribute [local irreducible] IntKind.wrap

@[reducible] def own (l : Is) (last : Int) : AV := .agg [.p (.lit (.int .i64 last)), .hs 0 0 l.length]
theorem bytes36 : Try.prog.bytesOf 36 + 1 ≤ 100 := by decide +kernel
theorem app_bound {n : Nat} (h : n < 1100000) : (0 + n) * (Try.prog.bytesOf 36 + 1) ≤ 140737488355328 :=
  Nat.le_trans (Nat.mul_le_mul (show 0 + n ≤ 1100000 by omega) bytes36) (by decide)
theorem hs_len {l : Is} {last : Int} {n : Nat} (hn : n = l.length) : AV.agg [.p (.lit (.int .i64 last)), .hs 0 0 n] = own l last := by rw [hn]
theorem enc_len (l : Is) : ∀ el ∈ l.map encItem, el.length = 4 := by
  intro el h
  obtain ⟨x, _, rfl⟩ := List.mem_map.1 h
  rfl
theorem is_ext {l l' : Is} (hl : l.length = l'.length) (h : ∀ k, k < l.length → ia l k = ia l' k) : l = l' := by
  apply List.ext_getElem hl
  intro i h1 h2
  have := h i h1
  rwa [ia_lt h1, ia_lt h2] at this
set_option maxHeartbeats 4000000 in
set_option maxRecDepth 100000 in
theorem clone_ok (l : Is) (last : Int) (hl : l.length < 1100000) : Good Try.prog 74 [cat l last] [] (own l last) [.arr 4 (l.map encItem)] := by
  refine good_e noM Try.func74 rfl rfl ?_
  conv => whnf
  refine VDraw.go ⟨16, [0, 1, 0, 0, 8, 28, 63, 127], [2, 5, 7], [(5, [32]), (7, [8])]⟩ rfl rfl (by decide +kernel) ?_
  conv => whnf
  refine ⟨⟨rfl, rfl, rfl⟩, trivial, ?_⟩
  conv => whnf
  refine ⟨(fun q => by cases q), by rw [List.length_map]; exact app_bound hl, enc_len l, ?_⟩
  conv => whnf
  refine ⟨⟨⟨by decide +kernel, Nat.le_of_ble_eq_true rfl⟩, trivial⟩, ?_⟩
  conv => whnf
  exact ⟨hs_len (by simp), rfl⟩
set_option maxHeartbeats 4000000 in
set_option maxRecDepth 100000 in
theorem l9Copy_ok (l : Is) (last : Int) (hl : l.length < 1100000) : Good Try.prog 53 [cat l last] [] (own l last) [.arr 4 (l.map encItem)] := by
  refine good_e noM Try.func53 rfl rfl ?_
  conv => whnf
  refine ⟨⟨rfl, rfl, rfl⟩, trivial, ?_⟩
  conv => whnf
  refine ⟨(fun q => by cases q), by rw [List.length_map]; exact app_bound hl, enc_len l, ?_⟩
  conv => whnf
  refine ⟨⟨⟨by decide +kernel, Nat.le_of_ble_eq_true rfl⟩, trivial⟩, ?_⟩
  conv => whnf
  exact ⟨hs_len (by simp), rfl⟩

theorem ia_app {l : Is} {t : RItem} (i : Nat) : ia (l ++ [t]) i = if i < l.length then ia l i else if i = l.length then t else zItem := by
  unfold ia
  rw [List.getD_eq_getElem?_getD]
  by_cases h1 : i < l.length
  · rw [if_pos h1, List.getElem?_append_left h1, List.getD_eq_getElem?_getD]
  · rw [if_neg h1, List.getElem?_append_right (by omega)]
    by_cases h2 : i = l.length
    · rw [if_pos h2, h2, Nat.sub_self]; rfl
    · rw [if_neg h2, show i - l.length = (i - l.length - 1) + 1 by omega]; rfl
theorem ia_set {l : Is} {i : Nat} {x : RItem} (hi : i < l.length) (j : Nat) : ia (l.set i x) j = if j = i then x else ia l j := by
  unfold ia
  rw [List.getD_eq_getElem?_getD, List.getD_eq_getElem?_getD]
  by_cases e : j = i
  · subst e; rw [if_pos rfl, List.getElem?_set_self hi]; rfl
  · rw [if_neg e, List.getElem?_set_ne (fun q => e q.symm)]
theorem putAt_end (l : Is) (t : RItem) : putAt l l.length t = l ++ [t] := by unfold putAt; rw [List.take_length, List.drop_length]
theorem putAt_swap {l : Is} {j : Nat} {t : RItem} (h1 : 0 < j) (h2 : j ≤ l.length) : ((putAt l j t).set j (ia l (j - 1))).set (j - 1) t = putAt l (j - 1) t := by
  refine is_ext (by rw [List.length_set, List.length_set, putAt_len h2, putAt_len (by omega)]) fun k hk => ?_
  rw [List.length_set, List.length_set, putAt_len h2] at hk
  rw [ia_set (by rw [List.length_set, putAt_len h2]; omega), ia_set (by rw [putAt_len h2]; omega), ia_putAt h2, ia_putAt (by omega)]
  by_cases e1 : k = j - 1
  · rw [if_pos e1, if_neg (by omega), if_pos e1]
  · rw [if_neg e1]
    by_cases e2 : k = j
    · rw [if_pos e2, if_neg (by omega), if_neg (by omega), e2]
    · rw [if_neg e2]
      by_cases e3 : k < j
      · rw [if_pos e3, if_pos (by omega)]
      · rw [if_neg e3, if_neg e2, if_neg (by omega), if_neg e1]
theorem swap_enc {l : Is} {j j' : Nat} {t : RItem} (h1 : 0 < j) (h2 : j ≤ l.length) (e : j' = j - 1) : (((putAt l j t).map encItem).set j (encItem (ia l (j - 1)))).set j' (encItem t) = (putAt l (j - 1) t).map encItem := by
  rw [e, ← List.map_set, ← List.map_set, putAt_swap h1 h2]
def sM : FuncId → Bool := fun f => [77, 81, 83].contains f
set_option maxHeartbeats 16000000 in
set_option maxRecDepth 100000 in
theorem insertion_ok (l : Is) (last : Int) (t : RItem) (p : CatP l last) (hf : ∀ k, k < l.length → same (ia l k) t.a t.b = false) :
    Good Try.prog 83 [.one (.hs 0 0 (l.length + 1)), vint 0, vint ((l.length + 1 : Nat) : Int), .clo 44 []] [.arr 4 ((l ++ [t]).map encItem)] (.tup []) [.arr 4 ((putAt l (kOf l t.a t.b) t).map encItem)] := by
  have hl8 := p.len
  refine good_e sM Try.func83 rfl rfl ?_
  conv => whnf
  have w1 : IntKind.i64.wrap (0 + 1) = 1 := wi _ (by omega) (by omega)
  rw [w1]
  refine VLoop.enter [0, 1, 2, 3, 8] ?_
  conv => whnf
  refine VLoop.ind2 (n0 := 1) (α := Int) (β := List (List PV)) sM [0, 1, 2, 3, 8] (fun a E => ⟨53, 1, [(0, .one (.hs 0 0 (l.length + 1))), (1, vint 0), (2, vint ((l.length + 1 : Nat) : Int)), (3, .clo 44 []), (8, vint a)], [(0, some (.arr 4 E))]⟩)
    (fun a E => ∃ i : Nat, a = i ∧ 1 ≤ i ∧ ((i ≤ l.length ∧ E = (l ++ [t]).map encItem) ∨ (i = l.length + 1 ∧ E = (putAt l (kOf l t.a t.b) t).map encItem))) (fun a _ => ((l.length + 1 : Nat) - a).toNat) ?_ 1 _ ⟨1, rfl, by omega, ?_⟩
  rotate_left
  · by_cases h : 1 ≤ l.length
    · exact .inl ⟨h, rfl⟩
    · have hn : l = [] := List.length_eq_zero_iff.1 (by omega)
      subst hn
      exact .inr ⟨rfl, rfl⟩
  rintro _ E ⟨i, rfl, hi1, hE⟩
  conv => whnf
  split
  · rename_i q
    have q' := of_decide_eq_true q
    obtain ⟨hi, rfl⟩ : i ≤ l.length ∧ E = (l ++ [t]).map encItem := by
      rcases hE with h | ⟨h, _⟩
      · exact h
      · omega
    have hw : IntKind.i64.wrap ((i : Int) + 1) = i + 1 := wi _ (by omega) (by omega)
    conv => whnf
    refine VLoop.enter [0, 1, 2, 3, 8, 9] ?_
    conv => whnf
    by_cases hil : i < l.length
    · have hmm : ((l ++ [t]).map encItem).length = l.length + 1 := by rw [List.length_map, List.length_append]; rfl
      have hw1 : IntKind.i64.wrap ((i : Int) - 1) = ((i - 1 : Nat) : Int) := by rw [wi _ (by omega) (by omega)]; omega
      have e1 : 0 + (i : Int).toNat = i := by omega
      have e2 : 0 + ((i - 1 : Nat) : Int).toNat = i - 1 := by omega
      refine VLoop.step sM ?_
      conv => whnf
      refine VDraw.go ⟨_, [0, 0, 3, 7, 15, 15, 15, 111, 239, 15, 15, 1039, 3599, 7695, 16383, 32767, 65535], [14], []⟩ rfl rfl (by decide +kernel) ?_
      conv => whnf
      split
      case h_2 => rename_i q2; have := of_decide_eq_false q2; omega
      conv => whnf
      refine ⟨by omega, by omega, by omega, ?_⟩
      conv => whnf
      refine ⟨_, ia_at (l ++ [t]) e1 (by rw [List.length_append]; omega), ?_⟩
      conv => whnf
      rw [hw1]
      refine ⟨by omega, by omega, by omega, ?_⟩
      conv => whnf
      refine ⟨_, ia_at (l ++ [t]) e2 (by rw [List.length_append]; omega), ?_⟩
      conv => whnf
      refine .mk _ _ false Try.call44 (order_ok _ _) (Nat.le_of_ble_eq_true rfl) (.inl rfl) ?_
      conv => whnf
      have hno : ¬ ordI (ia (l ++ [t]) i) (ia (l ++ [t]) (i - 1)) < 0 := by
        rw [ordI_neg, ia_app, ia_app, if_pos hil, if_pos (by omega), less_asymm (p.sorted (by omega) hil)]
        simp
      split
      · rename_i q3; exact absurd (of_decide_eq_true q3) hno
      conv => whnf
      refine ⟨_, _, rfl, rfl, ⟨i + 1, by rw [hw]; simp, by omega, .inl ⟨by omega, rfl⟩⟩, by rw [hw]; omega⟩
    · have hie : i = l.length := by omega
      subst hie
      rw [← putAt_end]
      refine VLoop.ind2 (n0 := 1) (α := Int) (β := List (List PV)) sM [0, 1, 2, 3, 8, 9] (fun a E => ⟨53, 1, [(0, .one (.hs 0 0 (l.length + 1))), (1, vint 0), (2, vint ((l.length + 1 : Nat) : Int)), (3, .clo 44 []), (8, vint l.length), (9, vint a)], [(0, some (.arr 4 E))]⟩)
        (fun a E => ∃ j : Nat, a = j ∧ j ≤ l.length ∧ E = (putAt l j t).map encItem ∧ ∀ m, j ≤ m → m < l.length → less t (ia l m).a (ia l m).b = true) (fun a _ => a.toNat) ?_ _ _ ⟨l.length, rfl, Nat.le_refl _, rfl, fun m h1 h2 => by omega⟩
      rintro _ _ ⟨j, rfl, hj, rfl, hgt⟩
      have hmm : ((putAt l j t).map encItem).length = l.length + 1 := by rw [List.length_map, putAt_len hj]
      have done : (0 < j → less t (ia l (j - 1)).a (ia l (j - 1)).b = false) → j = kOf l t.a t.b := by
        intro hs
        refine kOf_eq t.a t.b hj (fun m hm => ?_) (fun hjl => less_asymm (hgt j (Nat.le_refl _) hjl))
        have h1 : less (ia l (j - 1)) t.a t.b = true := by
          cases hq : less (ia l (j - 1)) t.a t.b with
          | true => rfl
          | false => have := less_tri hq (hs (by omega)); rw [hf _ (by omega)] at this; cases this
        by_cases e : m = j - 1
        · rw [e]; exact h1
        · exact less_trans (p.sorted (show m < j - 1 by omega) (by omega)) h1
      conv => whnf
      refine VDraw.go ⟨_, [0, 0, 3, 7, 15, 15, 15, 111, 239, 15, 15, 1039, 3599, 7695, 16383, 32767, 65535], [14], []⟩ rfl rfl (by decide +kernel) ?_
      conv => whnf
      split
      · rename_i q2
        have q2' := of_decide_eq_true q2
        have hw1 : IntKind.i64.wrap ((j : Int) - 1) = ((j - 1 : Nat) : Int) := by rw [wi _ (by omega) (by omega)]; omega
        have e1 : 0 + (j : Int).toNat = j := by omega
        have e2 : 0 + ((j - 1 : Nat) : Int).toNat = j - 1 := by omega
        have hgj : ia (putAt l j t) j = t := by rw [ia_putAt hj, if_neg (by omega), if_pos rfl]
        have hgj1 : ia (putAt l j t) (j - 1) = ia l (j - 1) := by rw [ia_putAt hj, if_pos (by omega)]
        conv => whnf
        refine ⟨by omega, by omega, by omega, ?_⟩
        conv => whnf
        refine ⟨_, ia_at (putAt l j t) e1 (by rw [putAt_len hj]; omega), ?_⟩
        rw [hgj]
        conv => whnf
        rw [hw1]
        refine ⟨by omega, by omega, by omega, ?_⟩
        conv => whnf
        refine ⟨_, ia_at (putAt l j t) e2 (by rw [putAt_len hj]; omega), ?_⟩
        rw [hgj1]
        conv => whnf
        refine .mk _ _ false Try.call44 (order_ok t (ia l (j - 1))) (Nat.le_of_ble_eq_true rfl) (.inl rfl) ?_
        conv => whnf
        have hord := @ordI_neg t (ia l (j - 1))
        split
        · rename_i q3
          have q3' := hord.1 (of_decide_eq_true q3)
          conv => whnf
          refine VDraw.go ⟨137, [0, 0, 0, 0, 8, 0, 0, 64, 224, 480, 0, 0, 3072, 7168, 16355, 32739, 65535, 131071], [15, 17], [(15, [0]), (17, [0])]⟩ rfl rfl (by decide +kernel) ?_
          conv => whnf
          rw [hw1]
          refine ⟨by omega, by omega, by omega, ?_⟩
          conv => whnf
          refine ⟨_, ia_at (putAt l j t) e2 (by rw [putAt_len hj]; omega), ?_⟩
          rw [hgj1]
          conv => whnf
          refine ⟨by omega, by omega, by omega, ?_⟩
          conv => whnf
          refine ⟨_, ia_at (putAt l j t) e1 (by rw [putAt_len hj]; omega), ?_⟩
          rw [hgj]
          conv => whnf
          refine ⟨by omega, by omega, by omega, ?_⟩
          conv => whnf
          refine ⟨_, ia_at (putAt l j t) e1 (by rw [putAt_len hj]; omega), by omega, ?_⟩
          rw [hgj]
          conv => whnf
          refine ⟨by omega, by omega, by rw [List.length_set]; omega, ?_⟩
          conv => whnf
          refine ⟨_, ((congrArg (fun z => List.getD z (0 + ((j - 1 : Nat) : Int).toNat) []) (show _ = ((putAt l j t).set j (ia l (j - 1))).map encItem from by rw [List.map_set, e1]; rfl)).trans (ia_at _ e2 (by rw [List.length_set, putAt_len hj]; omega))), by rw [List.length_set]; omega, ?_⟩
          conv => whnf
          refine ⟨_, _, rfl, rfl, ⟨j - 1, ?_, by omega, ?_, fun m h1 h2 => ?_⟩, ?_⟩
          · exact hw1
          · rw [e1, e2]; exact swap_enc (by omega) hj rfl
          · by_cases e : m = j - 1
            · rw [e]; exact q3'
            · exact hgt m (by omega) h2
          · rw [hw1]; omega
        · rename_i q3
          have q3' := of_decide_eq_false q3
          have hd := done (fun _ => by cases hq : less t (ia l (j - 1)).a (ia l (j - 1)).b with | false => rfl | true => exact absurd (hord.2 hq) q3')
          conv => whnf
          exact ⟨_, _, rfl, rfl, ⟨l.length + 1, by rw [hw]; simp, by omega, .inr ⟨rfl, by rw [hd]⟩⟩, by rw [hw]; omega⟩
      · rename_i q2
        have q2' := of_decide_eq_false q2
        have hd := done (fun q => by omega)
        conv => whnf
        exact ⟨_, _, rfl, rfl, ⟨l.length + 1, by rw [hw]; simp, by omega, .inr ⟨rfl, by rw [hd]⟩⟩, by rw [hw]; omega⟩
  · rename_i q
    have q' := of_decide_eq_false q
    obtain ⟨hi, rfl⟩ : i = l.length + 1 ∧ E = (putAt l (kOf l t.a t.b) t).map encItem := by
      rcases hE with ⟨h, _⟩ | h
      · omega
      · exact h
    conv => whnf
    refine ⟨trivial, ?_⟩
    conv => whnf
    exact ⟨rfl, rfl⟩
end Go.Abs.C
