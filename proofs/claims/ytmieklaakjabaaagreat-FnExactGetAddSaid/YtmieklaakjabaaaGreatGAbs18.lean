import Derived.Test.YtmieklaakjabaaaGreatGAbs17
set_option linter.unusedSimpArgs false
set_option linter.unusedVariables false
namespace Go.Abs
open Go Go.RowKit
variable {P : Program}
/-- How many of the first n are not listed. -/
def cntN (l : Array Bool) : Nat → Nat
  | 0 => 0
  | n + 1 => cntN l n + match l.getD n false with
    | true => 0
    | false => 1
theorem cntN_le (l : Array Bool) : ∀ n, cntN l n ≤ n
  | 0 => Nat.le_refl _
  | n + 1 => by have := cntN_le l n; simp only [cntN]; split <;> omega
theorem getD_set {l : Array Bool} {i : Nat} (hi : i < l.size) (k : Nat) : (l.setIfInBounds i true).getD k false = (l.getD k false || decide (k = i)) := by
  rw [Array.getD_eq_getD_getElem?, Array.getD_eq_getD_getElem?]
  by_cases h : i = k
  · subst h; rw [Array.getElem?_setIfInBounds, if_pos rfl, if_pos hi]; simp
  · rw [Array.getElem?_setIfInBounds_ne h, decide_eq_false (fun q : k = i => h q.symm), Bool.or_false]
theorem cntN_set {l : Array Bool} {i : Nat} (hi : i < l.size) (hil : l.getD i false = false) : ∀ n, cntN (l.setIfInBounds i true) n + (if i < n then 1 else 0) = cntN l n
  | 0 => by simp [cntN]
  | n + 1 => by
    have ih := cntN_set hi hil n
    simp only [cntN]
    rw [getD_set hi]
    by_cases h : n = i
    · subst h
      rw [hil]
      simp at ih ⊢
      omega
    · have : decide (n = i) = false := by simpa using h
      rw [this, Bool.or_false]
      by_cases h2 : i < n
      · rw [if_pos h2] at ih; rw [if_pos (by omega)]; omega
      · rw [if_neg h2] at ih; rw [if_neg (by omega)]; omega
theorem cntN_zero {l : Array Bool} : ∀ {n : Nat}, cntN l n = 0 → ∀ i, i < n → l.getD i false = true
  | 0, _, i, hi => by omega
  | n + 1, h, i, hi => by
    simp only [cntN] at h
    by_cases e : i = n
    · subst e
      cases hq : l.getD i false with
      | true => rfl
      | false => simp only [hq] at h; omega
    · exact cntN_zero (n := n) (by omega) i (by omega)
section
variable {ops : Array Oper} {R : Reg} {st0 : St} {es : List Eff}
theorem mem_rdy {l : Array Bool} {i : Nat} : i ∈ Region.ready .any ops l ↔ l.getD i true = false ∧ ∃ o, ops[i]? = some o ∧ ∀ e ∈ o.after, Region.binds .any e = true → l.getD e.on false = true := mem_ready
theorem lk_own {t : Tmp} {e : Eff} : ∀ {l : List Eff} {tm : List (Nat × AV)} (_ : e ∈ l) (_ : e.dst = some t) (_ : ∀ x ∈ l, x.dst = some t → x = e), lk (effT l tm) t = some e.v
  | [], _, h, _, _ => by cases h
  | x :: xs, tm, h, hd, hu => by
    simp only [effT]
    cases hx : x.dst with
    | none =>
      have hxe : e ∈ xs := (List.mem_cons.1 h).resolve_left (fun q => by rw [q, hx] at hd; cases hd)
      exact lk_own hxe hd fun y hy => hu y (List.mem_cons_of_mem _ hy)
    | some d =>
      simp only [lk]
      by_cases q : d = t
      · rw [if_pos q, hu x (List.mem_cons_self ..) (by rw [hx, q])]
      · rw [if_neg q]
        have hxe : e ∈ xs := (List.mem_cons.1 h).resolve_left (fun q' => by rw [q', hx] at hd; exact q (Option.some.inj hd))
        exact lk_own hxe hd fun y hy => hu y (List.mem_cons_of_mem _ hy)
/-- What is yielded to a guard. -/
theorem guard_val (hK : AllKnown P ops R st0 es) {X : Ctx} {A : Nat → Prop} {l : Array Bool} {a : Act} {w : World} (hr : RelA X A (stOf st0 (es.filter (inL l))) a w) {j : Nat} {t : Tmp} {u : Value} (hj : l.getD j false = true)
    (ht : (ops[j]?).bind (·.dst) = some t) (hu1 : ∀ k o', ops[k]? = some o' → o'.dst = some t → k = j) (hl : ∃ e' ∈ es, e'.i = j ∧ e'.v = lit u) : yielded ops a.tmps j = boolOf u := by
  obtain ⟨e', he', hij, hv⟩ := hl
  obtain ⟨oj, hoj, hdj, _⟩ := hK.one e' he'
  rw [hij] at hoj
  have hdt : e'.dst = some t := by rw [hdj]; rw [hoj] at ht; exact ht
  have : lk (stOf st0 (es.filter (inL l))).tm t = some (lit u) := by
    rw [← hv]
    refine lk_own (List.mem_filter.2 ⟨he', by unfold inL; rw [hij]; exact hj⟩) hdt fun x hx hxd => ?_
    have hxe := (List.mem_filter.1 hx).1
    obtain ⟨ox, hox, hdx, _⟩ := hK.one x hxe
    have := hu1 x.i ox hox (hdx ▸ hxd)
    exact hK.uniq x hxe e' he' (by rw [this, hij])
  exact yielded_of ht (hr.tmp this)
theorem draw_any (hR : R.Good ops) (hK : AllKnown P ops R st0 es) {X : Ctx} {Q : Exit → Act → World → Prop} (hQ : ∀ a' w', RelA X (· < R.n0 + 8 * ops.size) (stOf st0 es) a' w' → Q .normal a' w') :
    ∀ (fuel : Nat) (l : Array Bool) (a : Act) (w : World), l.size = ops.size → Closed R l → cntN l ops.size ≤ fuel → RelA X (dAt R l) (stOf st0 (es.filter (inL l))) a w → wpAny P .any ops Q fuel l a w := by
  have fin : ∀ (l : Array Bool) (a : Act) (w : World), l.size = ops.size → RelA X (dAt R l) (stOf st0 (es.filter (inL l))) a w → (∀ i, i < ops.size → l.getD i false = true) → Q .normal a w := by
    intro l a w hsz hr hall
    have : es.filter (inL l) = es := by
      rw [List.filter_eq_self]
      intro e he
      obtain ⟨o, ho, _⟩ := hK.one e he
      exact hall e.i (Array.getElem?_eq_some_iff.1 ho).1
    rw [this] at hr
    refine hQ a w (hr.weak fun b hb => ?_)
    rcases hb with hb | ⟨j, hj, hs⟩
    · omega
    · have hjl : j < l.size := by
        rcases Nat.lt_or_ge j l.size with h | h
        · exact h
        · rw [Array.getD_eq_getD_getElem?, Array.getElem?_eq_none h] at hj; cases hj
      unfold slotB at hs
      simp only [Bool.and_eq_true, Nat.blt_eq] at hs
      omega
  have nordy : ∀ (l : Array Bool), l.size = ops.size → Region.ready .any ops l = [] → ∀ i, i < ops.size → l.getD i false = true := by
    intro l hsz hnil i
    induction i using Nat.strongRecOn with
    | _ i ih =>
      intro hi
      cases hq : l.getD i false with
      | true => rfl
      | false =>
        have : i ∈ Region.ready .any ops l := by
          refine mem_rdy.2 ⟨?_, ops[i], Array.getElem?_eq_getElem hi, fun e he hb => ih e.on (hR.edge i _ (Array.getElem?_eq_getElem hi) e he hb) ?_⟩
          · rw [Array.getD_eq_getD_getElem?, Array.getElem?_eq_getElem (hsz ▸ hi)] at hq ⊢
            exact hq
          · have := hR.edge i _ (Array.getElem?_eq_getElem hi) e he hb
            omega
        rw [hnil] at this
        cases this
  intro fuel
  induction fuel with
  | zero =>
    intro l a w hsz hc hcnt hr
    have hall := cntN_zero (Nat.le_zero.1 hcnt)
    refine ⟨?_, fin l a w hsz hr hall⟩
    rw [List.eq_nil_iff_forall_not_mem]
    intro i hi
    obtain ⟨h1, o, ho, _⟩ := mem_rdy.1 hi
    have hlt := (Array.getElem?_eq_some_iff.1 ho).1
    have := hall i hlt
    rw [Array.getD_eq_getD_getElem?, Array.getElem?_eq_getElem (hsz ▸ hlt)] at h1 this
    simp only [Option.getD_some] at h1 this
    rw [h1] at this
    cases this
  | succ fuel ih =>
    intro l a w hsz hc hcnt hr
    refine ⟨fun hnil => fin l a w hsz hr (nordy l hsz hnil), fun i hi => ?_⟩
    obtain ⟨h1, o, ho, hdeps⟩ := mem_rdy.1 hi
    have hlt := (Array.getElem?_eq_some_iff.1 ho).1
    have hil : l.getD i false = false := by
      rw [Array.getD_eq_getD_getElem?, Array.getElem?_eq_getElem (hsz ▸ hlt)] at h1 ⊢
      exact h1
    have hanc : ∀ j, (R.an.getD i 0).testBit j = true → l.getD j false = true := by
      intro j hj
      obtain ⟨e, he, hb, h⟩ := hR.dep i o ho j hj
      rcases h with rfl | h
      · exact hdeps e he hb
      · exact hc e.on (hdeps e he hb) j h
    have hil' : i < l.size := hsz ▸ hlt
    have hc' : Closed R (l.setIfInBounds i true) := by
      intro k hk j hj
      rw [getD_set hil'] at hk ⊢
      by_cases e : k = i
      · subst e; rw [hanc j hj]; rfl
      · rw [decide_eq_false e, Bool.or_false] at hk
        rw [hc k hk j hj]; rfl
    have hcnt' : cntN (l.setIfInBounds i true) ops.size ≤ fuel := by
      have := cntN_set hil' hil ops.size
      rw [if_pos hlt] at this
      omega
    obtain ⟨e, he, hei, hkn⟩ := hK.all i o ho
    obtain ⟨hle1, hle2⟩ := last_eq hR hK hc ho hsz hil he hei
    have hdA : ∀ b, dAt R l b → dAt R (l.setIfInBounds i true) b := by
      rintro b (hb | ⟨j, hj, hs⟩)
      · exact .inl hb
      · exact .inr ⟨j, by rw [getD_set hil', hj]; rfl, hs⟩
    have back : ∀ a' w', RelA X (slots (dAt R l) (R.n0 + 8 * i)) ((stOf st0 (es.filter (inL l))).aft o.dst e.v e.wr) a' w' → wpAny P .any ops Q fuel (l.setIfInBounds i true) a' w' := by
      rintro a' w' ⟨σ, S, h⟩
      refine ih _ a' w' (by simpa using hsz) hc' hcnt' (RelA.weak ⟨σ, S, h.ext rfl rfl hle1 hle2⟩ fun b hb => ?_)
      rcases hb with hb | ⟨h3, h4⟩
      · exact hdA b hb
      · exact .inr ⟨i, by rw [getD_set hil']; simp, by unfold slotB; simp only [Bool.and_eq_true, Nat.blt_eq, Nat.ble_eq]; exact ⟨h3, h4⟩⟩
    unfold wpOp
    simp only [ho]
    cases hkn with
    | did hg hd hs =>
      have hw : Region.wanted o (yielded ops a.tmps) = true := by
        unfold Region.wanted
        cases hq : o.guard with
        | none => rfl
        | some jw =>
          obtain ⟨j, want⟩ := jw
          simp only [hq] at hg
          obtain ⟨ha, t, ht, hu1, hl⟩ := hg
          have := guard_val hK hr (hanc j ha) ht hu1 hl
          simp only [this, boolOf]
          simp
      rw [if_pos hw]
      refine .inl ((hs.mono (see_le hR hK hc ho hil hanc)).ox (A := dAt R l) ?_ hd X a w hr _ Q back)
      rintro b h3 h4 (hb | ⟨j, hj, hs⟩)
      · omega
      · unfold slotB at hs
        simp only [Bool.and_eq_true, Nat.blt_eq, Nat.ble_eq] at hs
        have : j = i := by omega
        rw [this, hil] at hj
        cases hj
    | not j want hg ha t ht hu1 u hl hu hd hv hwr =>
      have hw : Region.wanted o (yielded ops a.tmps) = false := by
        unfold Region.wanted
        have := guard_val hK hr (hanc j ha) ht hu1 hl
        simp only [hg, this]
        simpa using hu
      rw [if_neg (by rw [hw]; simp)]
      refine back _ _ ?_
      rw [hv, hwr]
      exact (hr.skip hd).weak fun b hb => .inl hb
theorem region_any {id : Nat} (hm : P.follows .mixedOrders = true) (hR : R.Good ops) (hK : AllKnown P ops R st0 es) : AX P (.region id ops true) R.n0 st0 .normal (R.n0 + 8 * ops.size) (stOf st0 es) := by
  rintro X a w ⟨σ, S, hr⟩
  refine wp_region_any hm ?_
  refine draw_any hR hK (fun a' w' h => ⟨rfl, h⟩) ops.size (Array.replicate ops.size false) a _ (by simp) ?_ (cntN_le _ _) ?_
  · intro i hi
    rw [Array.getD_eq_getD_getElem?, Array.getElem?_replicate] at hi
    split at hi <;> cases hi
  · have h0 : es.filter (inL (Array.replicate ops.size false)) = [] := by
      rw [List.filter_eq_nil_iff]
      intro e _ h
      unfold inL at h
      rw [Array.getD_eq_getD_getElem?, Array.getElem?_replicate] at h
      split at h <;> cases h
    rw [h0]
    exact RelA.weak ⟨σ, S, hr.drew⟩ fun b hb => .inl hb
end
end Go.Abs
