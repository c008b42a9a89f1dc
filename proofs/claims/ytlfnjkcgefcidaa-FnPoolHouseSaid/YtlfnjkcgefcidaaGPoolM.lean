import Derived.Test.YtlfnjkcgefcidaaGPool7
set_option linter.unusedSimpArgs false
set_option linter.unusedVariables false
namespace Go.Abs.B
open Go Go.Abs Go.Proofs
/-! ### what is taken from a pool that is ok leaves a pool that is ok -/
theorem at_set {l : Fs} {i : Nat} {x : RFrame} (hi : i < l.length) (j : Nat) : at' (l.set i x) j = if j = i then x else at' l j := by
  unfold at'
  rw [List.getD_eq_getElem?_getD, List.getD_eq_getElem?_getD]
  by_cases e : j = i
  · subst e; rw [if_pos rfl, List.getElem?_set_self hi]; rfl
  · rw [if_neg e, List.getElem?_set_ne (fun q => e q.symm)]
def ofH (ho : Int) (x : RFrame) : Bool := decide (x.b > 0) && decide (x.a = ho)
theorem cnt_set {ho : Int} {x : RFrame} : ∀ {l : Fs} {i : Nat}, i < l.length → cnt ho (l.set i x) + (if ofH ho (at' l i) = true then 1 else 0) = cnt ho l + (if ofH ho x = true then 1 else 0)
  | [], i, h => by simp at h
  | y :: ys, 0, _ => by
    show cnt ho (x :: ys) + (if ofH ho y = true then 1 else 0) = cnt ho (y :: ys) + _
    have c : ∀ z : RFrame, cnt ho (z :: ys) = cnt ho ys + if ofH ho z = true then 1 else 0 := by
      intro z
      unfold cnt
      by_cases q : ofH ho z = true
      · rw [if_pos q, List.filter_cons_of_pos (by simpa [ofH] using q)]; rfl
      · rw [if_neg q, List.filter_cons_of_neg (by simpa [ofH] using q)]; rfl
    rw [c, c]; omega
  | y :: ys, i + 1, h => by
    have ih := cnt_set (ho := ho) (x := x) (l := ys) (i := i) (by simpa using h)
    have c : ∀ zs : Fs, cnt ho (y :: zs) = cnt ho zs + if ofH ho y = true then 1 else 0 := by
      intro zs
      unfold cnt
      by_cases q : ofH ho y = true
      · rw [if_pos q, List.filter_cons_of_pos (by simpa [ofH] using q)]; rfl
      · rw [if_neg q, List.filter_cons_of_neg (by simpa [ofH] using q)]; rfl
    show cnt ho (y :: ys.set i x) + (if ofH ho (at' ys i) = true then 1 else 0) = cnt ho (y :: ys) + _
    rw [c, c]; omega
/-- The same but for marks that were wiped. -/
structure Sim (l l' : Fs) : Prop where
  len : l'.length = l.length
  at_ : ∀ j, at' l' j = at' l j ∨ at' l' j = { at' l j with e := false }
theorem Sim.refl (l : Fs) : Sim l l := ⟨rfl, fun _ => .inl rfl⟩
theorem Sim.trans {a b c : Fs} (h : Sim a b) (k : Sim b c) : Sim a c := by
  refine ⟨k.len.trans h.len, fun j => ?_⟩
  rcases k.at_ j with q | q <;> rcases h.at_ j with r | r <;> rw [q, r]
  · exact .inl rfl
  · exact .inr rfl
  · exact .inr rfl
  · exact .inr rfl
theorem victim_sim {own : Bool} {ho : Int} : ∀ {n : Nat} {l : Fs} {h : Nat}, l.length = 8 → h < 8 → Sim l (victim own ho n l h).1
  | 0, l, h, _, _ => Sim.refl l
  | n + 1, l, h, hl, hh => by
    unfold victim
    split
    · exact victim_sim hl (by omega)
    · split
      · exact victim_sim hl (by omega)
      · split
        · refine Sim.trans (b := l.set h { at' l h with e := false }) ⟨by simp, fun j => ?_⟩ (victim_sim (by simpa using hl) (by omega))
          rw [at_set (by omega)]
          by_cases q : j = h
          · rw [if_pos q, q]; exact .inr rfl
          · rw [if_neg q]; exact .inl rfl
        · exact Sim.refl l
theorem victim_found {own : Bool} {ho : Int} : ∀ {n : Nat} {l : Fs} {h : Nat}, l.length = 8 → h < 8 → 0 ≤ (victim own ho n l h).2.2 →
    (own && ((at' (victim own ho n l h).1 (victim own ho n l h).2.2.toNat).b == 0 || (at' (victim own ho n l h).1 (victim own ho n l h).2.2.toNat).a != ho)) = false ∧ (at' (victim own ho n l h).1 (victim own ho n l h).2.2.toNat).d ≤ 0
  | 0, l, h, _, _, hv => by simp only [victim] at hv; omega
  | n + 1, l, h, hl, hh, hv => by
    unfold victim at hv ⊢
    split
    · rename_i q; simp only [q] at hv; exact victim_found hl (by omega) hv
    · rename_i q
      simp only [q] at hv
      split
      · rename_i q2; simp only [q2] at hv; exact victim_found hl (by omega) hv
      · rename_i q2
        simp only [q2] at hv
        split
        · rename_i q3; simp only [q3] at hv; exact victim_found (by simpa using hl) (by omega) hv
        · simp only [Int.toNat_natCast]
          exact ⟨q, by have := of_decide_eq_false q2; omega⟩
theorem frOk_wipe {x : RFrame} (h : frOk x = true) : frOk { x with e := false } = true := by
  cases hb : x.b == 0 with
  | true =>
    rw [frOk_zero hb] at h
    rw [frOk_zero (x := { x with e := false }) hb]
    unfold zeroB at h ⊢
    simp only [Bool.and_eq_true] at h ⊢
    exact ⟨h.1, h.2.1, h.2.2.1, h.2.2.2.1, rfl, trivial⟩
  | false =>
    rw [frOk_full hb] at h
    rw [frOk_full (x := { x with e := false }) hb]
    exact h
theorem Sim.same {l l' : Fs} (s : Sim l l') (j : Nat) : (at' l' j).a = (at' l j).a ∧ (at' l' j).b = (at' l j).b ∧ (at' l' j).c = (at' l j).c ∧ (at' l' j).d = (at' l j).d := by
  rcases s.at_ j with q | q <;> rw [q] <;> exact ⟨rfl, rfl, rfl, rfl⟩
theorem cnt_congr {ho : Int} : ∀ {l l' : Fs}, l'.length = l.length → (∀ j, (at' l' j).a = (at' l j).a ∧ (at' l' j).b = (at' l j).b) → cnt ho l' = cnt ho l
  | [], [], _, _ => rfl
  | [], _ :: _, h, _ => by simp at h
  | _ :: _, [], h, _ => by simp at h
  | y :: ys, z :: zs, h, hs => by
    have ih := cnt_congr (ho := ho) (l := ys) (l' := zs) (by simpa using h) (fun j => hs (j + 1))
    have h0 : z.a = y.a ∧ z.b = y.b := hs 0
    unfold cnt at ih ⊢
    rw [List.filter_cons, List.filter_cons, h0.1, h0.2]
    split
    · rw [List.length_cons, List.length_cons, ih]
    · exact ih
theorem PoolOkP.sim {l l' : Fs} {h h' : Int} (p : PoolOkP l h) (s : Sim l l') (hh : inR h' 0 7 = true) : PoolOkP l' h' := by
  refine ⟨s.len.trans p.len, hh, fun i hi => ⟨?_, fun k hk hb hx => ?_⟩, ?_, ?_⟩
  · rcases s.at_ i with q | q <;> rw [q]
    · exact (p.good i hi).fr
    · exact frOk_wipe (p.good i hi).fr
  · obtain ⟨_, e2, e3, _⟩ := s.same i
    obtain ⟨_, g2, g3, _⟩ := s.same k
    rw [e2] at hb hx
    rw [e3, g2, g3] at hx
    exact (p.good i hi).new k hk hb hx
  · rw [cnt_congr s.len (fun j => ⟨(s.same j).1, (s.same j).2.1⟩)]; exact p.c0
  · rw [cnt_congr s.len (fun j => ⟨(s.same j).1, (s.same j).2.1⟩)]; exact p.c1
theorem inR_iff {n lo hi : Int} : inR n lo hi = true ↔ lo ≤ n ∧ n ≤ hi := by unfold inR; simp
/-- One frame is set: still ok, if it is ok by itself, new, and the counts hold. -/
theorem PoolOkP.put {l : Fs} {h : Int} (p : PoolOkP l h) {i : Nat} (hi : i < 8) {x : RFrame} (hx : frOk x = true) (hnew : ∀ j, j < 8 → j ≠ i → x.b > 0 → ¬ (x.b = (at' l j).b ∧ x.c = (at' l j).c)) (h0 : cnt 0 (l.set i x) ≤ 5) (h1 : cnt 1 (l.set i x) ≤ 5) : PoolOkP (l.set i x) h := by
  have hil : i < l.length := by rw [p.len]; exact hi
  refine ⟨by simpa using p.len, p.hand, fun j hj => ⟨?_, fun k hk hb hq => ?_⟩, h0, h1⟩
  · rw [at_set hil]
    by_cases q : j = i
    · rw [if_pos q]; exact hx
    · rw [if_neg q]; exact (p.good j hj).fr
  · rw [at_set hil] at hb hq
    rw [at_set hil] at hq
    by_cases q : j = i
    · rw [if_pos q] at hb hq
      rw [if_neg (by omega)] at hq
      exact hnew k (by omega) (by omega) hb hq
    · rw [if_neg q] at hb hq
      by_cases q2 : k = i
      · rw [if_pos q2] at hq
        exact hnew j hj q (by rw [← hq.1]; exact hb) ⟨hq.1.symm, hq.2.symm⟩
      · rw [if_neg q2] at hq
        exact (p.good j hj).new k hk hb hq
theorem find_neg {e b : Int} {l : Fs} (h : find e b l < 0) : ∀ k, k < l.length → hit e b (at' l k) = false := by
  unfold find at h
  cases hq : l.findIdx? (hit e b) with
  | some j => simp only [hq] at h; omega
  | none =>
    rw [List.findIdx?_eq_none_iff] at hq
    intro k hk
    unfold at'
    rw [List.getD_eq_getElem?_getD, List.getElem?_eq_getElem hk]
    exact hq _ (List.getElem_mem hk)
theorem find_pos {e b : Int} {l : Fs} (h : 0 ≤ find e b l) : hit e b (at' l (find e b l).toNat) = true := by
  unfold find at h ⊢
  cases hq : l.findIdx? (hit e b) with
  | none => simp [hq] at h
  | some j =>
    simp only [Int.toNat_natCast]
    rw [List.findIdx?_eq_some_iff_getElem] at hq
    obtain ⟨h1, h2, _⟩ := hq
    unfold at'
    rw [List.getD_eq_getElem?_getD, List.getElem?_eq_getElem h1]
    exact h2
theorem take_keeps {l : Fs} {h : Nat} {ho e b : Int} (p : PoolOkP l h) (h1 : inR ho 0 1 = true) (h2 : inR e 1 99999 = true) (h3 : inR b 0 23 = true) : PoolOkP (takeS l h ho e b).1 (takeS l h ho e b).2.1 := by
  have hlen := p.len
  have hh := p.hand8
  unfold takeS
  split
  · rename_i g
    have g' := of_decide_eq_true g
    have hlt := find_lt (e := e) (b := b) (l := l)
    split
    · exact p
    · rename_i g2
      have hk : (find e b l).toNat < 8 := by omega
      have hit0 := find_pos (e := e) (b := b) (l := l) (by omega)
      generalize (find e b l).toNat = k at g2 hk hit0 ⊢
      simp only [Bool.or_eq_false_iff] at g2
      have hd := p.room.held k hk
      have hd2 := of_decide_eq_false g2.1
      have hfr := (p.good k hk).fr
      refine p.put hk ?_ (fun j hj hne hb hq => ?_) ?_ ?_
      · unfold hit at hit0
        simp only [Bool.and_eq_true, beq_iff_eq] at hit0
        have e1 := inR_iff.1 h2
        have hb0 : ((at' l k).b == 0) = false := by rw [beq_eq_false_iff_ne]; omega
        rw [frOk_full hb0] at hfr
        rw [frOk_full (x := held (at' l k)) hb0]
        simp only [Bool.and_eq_true] at hfr ⊢
        refine ⟨hfr.1, inR_iff.2 ?_⟩
        show 0 ≤ (at' l k).d + 1 ∧ (at' l k).d + 1 ≤ 99999
        omega
      · rcases Nat.lt_or_gt_of_ne hne with q | q
        · exact (p.good k hk).new j q hb hq
        · exact (p.good j hj).new k q (by rw [← hq.1]; exact hb) ⟨hq.1.symm, hq.2.symm⟩
      · have q := cnt_set (ho := 0) (x := held (at' l k)) (l := l) (i := k) (by omega)
        have c := p.c0
        rw [show ofH 0 (held (at' l k)) = ofH 0 (at' l k) from rfl] at q
        omega
      · have q := cnt_set (ho := 1) (x := held (at' l k)) (l := l) (i := k) (by omega)
        have c := p.c1
        rw [show ofH 1 (held (at' l k)) = ofH 1 (at' l k) from rfl] at q
        omega
  · rename_i g
    have g' := of_decide_eq_false g
    split
    · exact p
    · rename_i g2
      have g2' := of_decide_eq_false g2
      have hs := victim_sim (own := decide (cnt ho l ≥ 5)) (ho := ho) (n := 17) (l := l) (h := h) hlen hh
      have hf := victim_found (own := decide (cnt ho l ≥ 5)) (ho := ho) (n := 17) (l := l) (h := h) hlen hh (by omega)
      have hv := victim_lt (own := decide (cnt ho l ≥ 5)) (ho := ho) (n := 17) (l := l) (h := h) hh
      generalize victim (decide (cnt ho l ≥ 5)) ho 17 l h = V at g2' hs hf hv ⊢
      obtain ⟨L, h', v⟩ := V
      simp only at g2' hs hf hv ⊢
      have hk : v.toNat < 8 := by omega
      generalize v.toNat = k at hf hk ⊢
      have pL : PoolOkP L h' := p.sim hs (inR_iff.2 (by omega))
      have hL := pL.len
      have e1 := inR_iff.1 h1
      have e2 := inR_iff.1 h2
      have hcnt : ∀ c : Int, cnt c l ≤ 5 → cnt c (L.set k ⟨ho, e, b, 1, true⟩) ≤ 5 := by
        intro c hc
        have q := cnt_set (ho := c) (x := ⟨ho, e, b, 1, true⟩) (l := L) (i := k) (by omega)
        have hcL : cnt c L = cnt c l := cnt_congr hs.len (fun j => ⟨(hs.same j).1, (hs.same j).2.1⟩)
        by_cases q1 : c = ho
        · subst q1
          by_cases q2 : cnt c l ≥ 5
          · have hf1 := hf.1
            rw [decide_eq_true q2, Bool.true_and, Bool.or_eq_false_iff] at hf1
            have hb := (pL.good k hk).fr
            rw [frOk_full hf1.1] at hb
            simp only [Bool.and_eq_true] at hb
            have hb' := inR_iff.1 hb.1.1.2
            have ha : (at' L k).a = c := by simpa using hf1.2
            have : ofH c (at' L k) = true := by unfold ofH; rw [ha]; simp; omega
            rw [if_pos this] at q
            split at q <;> omega
          · split at q <;> split at q <;> omega
        · have : ¬ ofH c (⟨ho, e, b, 1, true⟩ : RFrame) = true := by unfold ofH; simp; intro _ q2; exact q1 q2.symm
          rw [if_neg this] at q
          split at q <;> omega
      refine pL.put hk ?_ (fun j hj hne hb hq => ?_) (hcnt 0 p.c0) (hcnt 1 p.c1)
      · have hb0 : ((⟨ho, e, b, 1, true⟩ : RFrame).b == 0) = false := by rw [beq_eq_false_iff_ne]; show e ≠ 0; omega
        rw [frOk_full hb0]
        simp only [Bool.and_eq_true]
        exact ⟨⟨⟨h1, h2⟩, h3⟩, by decide⟩
      · have := find_neg (e := e) (b := b) (l := l) (by omega) j (by omega)
        unfold hit at this
        obtain ⟨_, s2, s3, _⟩ := hs.same j
        have hq1 : e = (at' L j).b := hq.1
        have hq2 : b = (at' L j).c := hq.2
        rw [← s2, ← s3, ← hq1, ← hq2] at this
        simp at this
end Go.Abs.B
