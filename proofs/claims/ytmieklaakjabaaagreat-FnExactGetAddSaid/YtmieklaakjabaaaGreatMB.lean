import Derived.Test.YtmieklaakjabaaaGreatMA
import Derived.ArgAppend
import Derived.Laws.Slices
import Derived.Laws.OwnMore
import Derived.WalkKit
import Derived.RowKit3
import Derived.Shelf.RegionOpenPlain
import Derived.Shelf.Spec.SlicesInsertGrow
set_option linter.unusedSimpArgs false
set_option linter.unusedVariables false
namespace Go.Abs.F
open Go Go.Abs Go.Proofs Go.RowKit
attribute [local irreducible] IntKind.wrap
/-- What a function hands back in blocks of its own, taken as settled. -/
inductive FrzC (nl : Nat) (out : List Blk) : AC → AC → Prop
  | p {x : PV} : FrzC nl out (.p x) (.p x)
  | nil : FrzC nl out (.p (.lit (.slice none 0 0))) (.p (.sl []))
  | hp {b i j : Nat} (h : b < nl) : FrzC nl out (.hp b i j) (.hp b i j)
  | sl {b n sz : Nat} {els : List (List PV)} (h : out[b]? = some (.arr sz els)) (hn : n = els.length) (hb : nl ≤ b) : FrzC nl out (.hs b 0 n) (.p (.sl els))
  | slt {b n sz : Nat} {els : List (List PV)} (h : out[b]? = some (.arr sz els)) (hn : n ≤ els.length) (hb : nl ≤ b) : FrzC nl out (.hs b 0 n) (.p (.sl (els.take n)))
inductive FrzCs (nl : Nat) (out : List Blk) : List AC → List AC → Prop
  | nil : FrzCs nl out [] []
  | cons {c d : AC} {cs ds : List AC} (h : FrzC nl out c d) (t : FrzCs nl out cs ds) : FrzCs nl out (c :: cs) (d :: ds)
inductive FrzV (nl : Nat) (out : List Blk) : AV → AV → Prop
  | one {c d : AC} (h : FrzC nl out c d) : FrzV nl out (.one c) (.one d)
  | agg {cs ds : List AC} (h : FrzCs nl out cs ds) : FrzV nl out (.agg cs) (.agg ds)
inductive FrzVs (nl : Nat) (out : List Blk) : List AV → List AV → Prop
  | nil : FrzVs nl out [] []
  | cons {c d : AV} {cs ds : List AV} (h : FrzV nl out c d) (t : FrzVs nl out cs ds) : FrzVs nl out (c :: cs) (d :: ds)
inductive FrzR (nl : Nat) (out : List Blk) : AV → AV → Prop
  | v {c d : AV} (h : FrzV nl out c d) : FrzR nl out c d
  | tup {cs ds : List AV} (h : FrzVs nl out cs ds) : FrzR nl out (.tup cs) (.tup ds)
section
variable {P : Program} {w : World} {S S' : Kx → Prop} {σ : Nat → Loc} {nl : Nat} {out : List Blk}
theorem FrzC.rep {c d : AC} (h : FrzC nl out c d) (hF : Free S) (hS : ∀ k, S k → S' k) (hk : ∀ b, nl ≤ b → b < out.length → S' (.m (σ b).k)) (hb : ∀ b blk, out[b]? = some blk → BlkRep w S σ b blk) {v : Value} (hr : RepC w S σ c v) : RepC w S' σ d v := by
  cases h with
  | p => cases hr with | p h => exact .p (h.mono (fun _ _ => rfl) hS)
  | nil =>
    cases hr with
    | p h => cases h; exact .p (.nil _ _)
  | hp h => cases hr; exact .hp _ _ _
  | sl h hn hnl =>
    rename_i b n sz els
    have hlt : b < out.length := (List.getElem?_eq_some_iff.1 h).1
    cases hr with
    | hs _ _ _ cap hc hn2 =>
      have := (hb b _ h).slice hF hS (hk b hnl hlt) 0 n cap (by omega) hn2
      rw [List.drop_zero, hn, List.take_length] at this
      rw [hn]
      exact .p this
    | hs0 _ _ a =>
      have : els = [] := List.eq_nil_of_length_eq_zero hn.symm
      subst this
      exact .p (.nil a 0)
  | slt h hn hnl =>
    rename_i b n sz els
    have hlt : b < out.length := (List.getElem?_eq_some_iff.1 h).1
    cases hr with
    | hs _ _ _ cap hc hn2 =>
      have := (hb b _ h).slice hF hS (hk b hnl hlt) 0 n cap (by omega) hn2
      rw [List.drop_zero] at this
      exact .p this
    | hs0 _ _ a =>
      rw [List.take_zero]
      exact .p (.nil a 0)
theorem FrzCs.len {cs ds : List AC} (h : FrzCs nl out cs ds) : ds.length = cs.length := by
  induction h with
  | nil => rfl
  | cons _ _ ih => rw [List.length_cons, List.length_cons, ih]
theorem FrzCs.get {cs ds : List AC} (h : FrzCs nl out cs ds) : ∀ (i : Nat) d, ds[i]? = some d → ∃ c, cs[i]? = some c ∧ FrzC nl out c d := by
  induction h with
  | nil => intro i d h; simp at h
  | cons h t ih =>
    intro i d hd
    rcases i with _ | i
    · simp at hd; subst hd; exact ⟨_, rfl, h⟩
    · exact ih i d (by simpa using hd)
theorem FrzVs.len {cs ds : List AV} (h : FrzVs nl out cs ds) : ds.length = cs.length := by
  induction h with
  | nil => rfl
  | cons _ _ ih => rw [List.length_cons, List.length_cons, ih]
theorem FrzVs.get {cs ds : List AV} (h : FrzVs nl out cs ds) : ∀ (i : Nat) d, ds[i]? = some d → ∃ c, cs[i]? = some c ∧ FrzV nl out c d := by
  induction h with
  | nil => intro i d h; simp at h
  | cons h t ih =>
    intro i d hd
    rcases i with _ | i
    · simp at hd; subst hd; exact ⟨_, rfl, h⟩
    · exact ih i d (by simpa using hd)
theorem FrzV.rep {c d : AV} (h : FrzV nl out c d) (hF : Free S) (hS : ∀ k, S k → S' k) (hk : ∀ b, nl ≤ b → b < out.length → S' (.m (σ b).k)) (hb : ∀ b blk, out[b]? = some blk → BlkRep w S σ b blk) {v : Value} (hr : RepV w S σ c v) : RepV w S' σ d v := by
  cases h with
  | one h => cases hr with | one hr => exact .one (h.rep hF hS hk hb hr)
  | agg h =>
    cases hr with
    | agg _ vs hl hr =>
      refine .agg _ vs (h.len.trans hl) fun i d v h1 h2 => ?_
      obtain ⟨c, e1, e2⟩ := h.get i d h1
      exact e2.rep hF hS hk hb (hr i c v e1 h2)
theorem FrzR.rep {c d : AV} (h : FrzR nl out c d) (hF : Free S) (hS : ∀ k, S k → S' k) (hk : ∀ b, nl ≤ b → b < out.length → S' (.m (σ b).k)) (hb : ∀ b blk, out[b]? = some blk → BlkRep w S σ b blk) {v : Value} (hr : RepV w S σ c v) : RepV w S' σ d v := by
  cases h with
  | v h => exact h.rep hF hS hk hb hr
  | tup h =>
    cases hr with
    | tup _ vs hl hr =>
      refine .tup _ vs (h.len.trans hl) fun i d v h1 h2 => ?_
      obtain ⟨c, e1, e2⟩ := h.get i d h1
      exact e2.rep hF hS hk hb (hr i c v e1 h2)
theorem FrzC.inA {c d : AC} (h : FrzC nl out c d) : d.inA (· < nl) := by
  cases h with
  | p => trivial
  | nil => trivial
  | hp h => exact h
  | sl => trivial
  | slt => trivial
theorem FrzV.inA {c d : AV} (h : FrzV nl out c d) : d.InA (· < nl) := by
  cases h with
  | one h => exact .one h.inA
  | agg h =>
    refine .agg fun c hc => ?_
    obtain ⟨i, hi⟩ := List.mem_iff_getElem?.1 hc
    obtain ⟨_, _, e⟩ := h.get i c hi
    exact e.inA
theorem FrzR.inA {c d : AV} (h : FrzR nl out c d) : d.InA (· < nl) := by
  cases h with
  | v h => exact h.inA
  | tup h =>
    refine .tup fun c hc => ?_
    obtain ⟨i, hi⟩ := List.mem_iff_getElem?.1 hc
    obtain ⟨_, _, e⟩ := h.get i c hi
    exact e.inA
end
/-- A contract, with what the function made taken as settled. -/
theorem good_frz {P : Program} {f : FuncId} {args : List AV} {lent : List Blk} {r r' : AV} {out out' : List Blk} (h : Good P f args lent r out) (hr : FrzR lent.length out r r') (ho : out' = out.take lent.length) (hA : ∀ blk ∈ out', blk.inA (· < lent.length)) : Good P f args lent r' out' := by
  intro w vs σ S h1 h2 h3 h4 h5 h6 h7 h8
  refine (h w vs σ S h1 h2 h3 h4 h5 h6 h7 h8).mono ?_
  rintro en w' ⟨v, rfl, σ', S', p1, p2, p3, p4, p5, p6, p7, p8, p9, p10, p11, p12, p13, p14, p15, p16⟩
  have hF := p16 rfl
  have hol : out'.length = lent.length := by rw [ho, List.length_take]; omega
  have hget : ∀ b blk, out'[b]? = some blk → b < lent.length ∧ out[b]? = some blk := fun b blk hb => by
    rw [ho, List.getElem?_take] at hb
    split at hb
    · rename_i q; exact ⟨q, hb⟩
    · cases hb
  have hS : ∀ k, S' k → (S' k ∨ ∃ b, lent.length ≤ b ∧ b < out.length ∧ k = .m (σ' b).k) := fun k q => .inl q
  have hF' : Free fun k => S' k ∨ ∃ b, lent.length ≤ b ∧ b < out.length ∧ k = .m (σ' b).k := by
    rintro k t (q | ⟨b, _, _, q⟩)
    · exact hF k t q
    · cases q
  refine ⟨v, rfl, σ', fun k => S' k ∨ ∃ b, lent.length ≤ b ∧ b < out.length ∧ k = .m (σ' b).k, hr.rep hF hS (fun b q1 q2 => .inr ⟨b, q1, q2, rfl⟩) (fun b blk q => (p4 b blk q).1) p1, hol ▸ hr.inA, by omega, ?_, ?_, p6, fun b q1 q2 => by omega, ?_, ?_, p10, p11, p12, p13, p14, hF'.ok, fun _ => hF'⟩
  · intro b blk hb
    obtain ⟨q1, q2⟩ := hget b blk hb
    have q3 : b < out.length := by omega
    refine ⟨(p4 b blk q2).1.mono (p4 b blk q2).2.1 q3 (fun _ _ => rfl) hS (fun _ _ => rfl) rfl, by rw [hol]; exact hA blk (List.mem_of_getElem? hb), ?_⟩
    rintro x (q | ⟨b', e1, e2, rfl⟩)
    · exact (p4 b blk q2).2.2 x q
    · exact p5 b' b e2 q3 (by omega)
  · intro b b' q1 q2 q3
    exact p5 b b' (by omega) (by omega) q3
  · rintro k (q | ⟨b, e1, e2, rfl⟩)
    · exact p8 k q
    · obtain ⟨c, ty, fr, a1, _⟩ := (p4 b _ (List.getElem?_eq_getElem e2)).1
      exact (Array.getElem?_eq_some_iff.1 a1).1
  · rintro k (q | ⟨b, e1, e2, rfl⟩) hk
    · exact p9 k q hk
    · have := p7 b e1 e2
      have hk : (σ' b).k < w.heap.size := hk
      omega
/-- The same value, said otherwise. -/
theorem good_say {own : Bool} {P : Program} {f : FuncId} {args : List AV} {lent : List Blk} {r r' : AV} {out : List Blk} (h : GoodO own P f args lent r out) (hr : ∀ (w : World) (S : Kx → Prop) (σ : Nat → Loc) (v : Value), RepV w S σ r v → RepV w S σ r' v) (hA : r.InA (· < out.length) → r'.InA (· < out.length)) : GoodO own P f args lent r' out := by
  intro w vs σ S h1 h2 h3 h4 h5 h6 h7 h8
  refine (h w vs σ S h1 h2 h3 h4 h5 h6 h7 h8).mono ?_
  rintro en w' ⟨v, rfl, σ', S', p1, p2, p⟩
  exact ⟨v, rfl, σ', S', hr w' S' σ' v p1, hA p2, p⟩
theorem repP_els {w : World} {S : Kx → Prop} {els els' : List (List PV)} (hl : els'.length = els.length) (h : ∀ (i : Nat) (el' : List PV), els'[i]? = some el' → ∃ el, els[i]? = some el ∧ el'.length = el.length ∧ ∀ (j : Nat) (x' : PV), el'[j]? = some x' → ∃ x, el[j]? = some x ∧ (x.notOwn = true → x'.notOwn = true) ∧ ∀ v, RepP w S x v → RepP w S x' v) {v : Value} (hr : RepP w S (.sl els) v) : RepP w S (.sl els') v := by
  cases hr with
  | nil a cap =>
    have : els' = [] := List.eq_nil_of_length_eq_zero hl
    subst this; exact .nil a cap
  | sl _ k off sz n cap cf hn hcap hk hsz hc hr ho =>
    refine .sl els' k off sz n cap cf (hl.trans hn) hcap hk (fun i el' q => ?_) (fun i el' j x' q1 q2 => ?_) (fun i el' j x' q1 q2 => ?_) (fun i el' j x' q1 q2 => ?_)
    · obtain ⟨el, e1, e2, _⟩ := h i el' q
      exact e2.trans (hsz i el e1)
    · obtain ⟨el, e1, _, e3⟩ := h i el' q1
      obtain ⟨x, e4, _⟩ := e3 j x' q2
      exact hc i el j x e1 e4
    · obtain ⟨el, e1, _, e3⟩ := h i el' q1
      obtain ⟨x, e4, _, e5⟩ := e3 j x' q2
      exact e5 _ (hr i el j x e1 e4)
    · obtain ⟨el, e1, _, e3⟩ := h i el' q1
      obtain ⟨x, e4, e6, _⟩ := e3 j x' q2
      exact e6 (ho i el j x e1 e4)
/-- A nil slice is a slice without elements. -/
theorem nil_rep {w : World} {S : Kx → Prop} {σ : Nat → Loc} {v : Value} (h : RepC w S σ (.p (.lit (.slice none 0 0))) v) : RepC w S σ (.p (.sl [])) v := by
  cases h with
  | p h => cases h; exact .p (.nil _ _)
end Go.Abs.F

set_option linter.unusedSimpArgs false
set_option linter.unusedVariables false
namespace Go.Abs.F
open Go Go.Abs Go.Proofs Go.RowKit
attribute [local irreducible] IntKind.wrap
theorem bytesEq : Tryz.prog.bytesOf 96 + 1 ≤ 100 := by decide +kernel
theorem appE {n : Nat} (h : n ≤ 1100000) : n * (Tryz.prog.bytesOf 96 + 1) ≤ 140737488355328 := Nat.le_trans (Nat.mul_le_mul h bytesEq) (by decide)
theorem eE_len (l : List Eqn) : ∀ x ∈ l.map eE, x.length = 2 := fun x hx => by
  obtain ⟨a, _, rfl⟩ := List.mem_map.1 hx; rfl
theorem frzI (r : List Int) : List.take (0 + (r.map eI).length) (List.drop 0 ([] ++ r.map eI)) = r.map eI := by
  rw [List.nil_append, List.drop_zero, Nat.zero_add, List.take_length]
set_option maxHeartbeats 16000000 in
set_option maxRecDepth 100000 in
theorem implClone_own (c z : Int) (es : List Eqn) (hB : SBd c z es) : Good Tryz.prog 66 [solF c z es] [] (.agg [.p (.lit (.int .i64 c)), .p (.lit (.int .i64 z)), .hs 0 0 es.length]) [.arr 2 (es.map eE)] := by
  have hm : (es.map eE).length = es.length := List.length_map ..
  have hn := hB.n
  refine good_e noM Tryz.func66 rfl rfl ?_
  conv => whnf
  refine VLoop.enter [2, 3, 13, 14, 15] ?_
  conv => whnf
  refine VLoop.ind3 (n0 := 3) (α := Int) (β := Nat) (γ := List (List PV)) noM [2, 3, 13, 14, 15] (fun i n E => ⟨33, 0, [(2, .one (.hp 0 0 0)), (3, .one (.hp 1 0 0)), (13, .one (.p (.sl (es.map eE)))), (14, vint (es.map eE).length), (15, vint i)],
      [(0, some (.box [.p (.lit (.int .i64 0)), .p (.lit (.int .i64 0)), .p (.lit (.slice none 0 0))])), (1, some (.box [.p (.lit (.int .i64 c)), .p (.lit (.int .i64 z)), .hs 2 0 n])), (2, some (.arr 2 E))]⟩)
    (fun i n E => ∃ j : Nat, i = j ∧ j ≤ es.length ∧ n = j ∧ E = (es.take j).map eE) (fun i _ _ => ((es.length : Int) - i).toNat) ?_ 0 0 [] ⟨0, rfl, by omega, rfl, rfl⟩
  rintro _ n _ ⟨i, rfl, hi, hn2, rfl⟩
  subst hn2
  have hwi : IntKind.i64.wrap ((n : Int) + 1) = ((n + 1 : Nat) : Int) := by rw [wrap_in _ (by omega) (by omega)]; omega
  have htl : ((es.take n).map eE).length = n := by rw [List.length_map, List.length_take]; omega
  conv => whnf
  rw [hm]
  split
  · rename_i q1
    have q1' := of_decide_eq_true q1
    have en : (n : Int).toNat = n := Int.toNat_natCast n
    obtain ⟨x, hx⟩ : ∃ x, es[n]? = some x := ⟨_, List.getElem?_eq_getElem (by omega)⟩
    have hxm := mem_at hx
    obtain ⟨hxr, hxd⟩ := hB.r x hxm
    have hxl : (x.r.map eI).length = x.r.length := List.length_map ..
    conv => whnf
    refine ⟨by omega, by rw [hm]; omega, _, atE es en hx, ?_⟩
    conv => whnf
    refine VDraw.goR [0, 1, 0, 0, 8, 28, 0, 64, 252, 508, 1023, 2047, 4095] [2, 5, 9, 10, 12] [(5, [2]), (9, [5])] [(10, [2]), (12, [1])] rfl (by decide +kernel) ?_
    conv => whnf
    refine ⟨⟨rfl, rfl, rfl⟩, trivial, ?_⟩
    conv => whnf
    refine ⟨(fun q => by cases q), app3 (by rw [hxl]; show 0 + x.r.length ≤ _; omega), eI_len x.r, ?_⟩
    conv => whnf
    refine ⟨⟨by rw [List.length_append]; omega, trivial, trivial⟩, ?_⟩
    conv => whnf
    refine ⟨⟨rfl, htl.symm, rfl⟩, Nat.le_refl 1, ?_⟩
    conv => whnf
    refine ⟨(fun q => by cases q), appE (show ((es.take n).map eE).length + 1 ≤ _ by rw [htl]; omega), fun el hel => by cases List.mem_singleton.1 hel; rfl, ?_⟩
    conv => whnf
    refine ⟨_, _, _, rfl, rfl, ⟨n + 1, by rw [hwi], by omega, ?_, ?_⟩, by rw [hwi]; omega⟩
    · show ((es.take n).map eE).length + 1 = n + 1
      rw [htl]
    · rw [take_snoc hx, List.map_append]
      exact congrArg (fun r => (es.take n).map eE ++ [[PV.sl r, PV.lit (.string x.d)]]) (frzI x.r)
  · rename_i q1
    have q1' := of_decide_eq_false q1
    have e : n = es.length := by omega
    subst e
    rw [List.take_length]
    conv => whnf
    refine ⟨⟨⟨by decide +kernel, Nat.le_of_ble_eq_true rfl⟩, trivial⟩, ?_⟩
    conv => whnf
    exact ⟨rfl, rfl⟩
theorem implClone_ok (c z : Int) (es : List Eqn) (hB : SBd c z es) : Good Tryz.prog 66 [solF c z es] [] (solF c z es) [] :=
  good_frz (implClone_own c z es hB) (.v (.agg (.cons .p (.cons .p (.cons (.sl rfl (List.length_map ..).symm (Nat.zero_le _)) .nil))))) rfl (fun _ h => by cases h)
end Go.Abs.F

set_option linter.unusedSimpArgs false
set_option linter.unusedVariables false
namespace Go.Abs.F
open Go Go.Abs Go.Proofs Go.RowKit
attribute [local irreducible] IntKind.wrap
theorem vloop_indN {P : Program} {ι : Type} (M : FuncId → Bool) (ts : List Tmp) {c : Code} {Q : Exit → Nat → St → Prop} (n0 : ι → Nat) (S : ι → St) (I : ι → Prop) (m : ι → Nat)
    (round : ∀ i, I i → vcode P M c (andThen (fun _ s => atHead s ts fun n1 s1 => ∃ j, n1 = n0 j ∧ s1 = S j ∧ I j ∧ m j < m i) Q) (n0 i) (S i)) : ∀ i, I i → VLoop P c Q (n0 i) (S i) :=
  have key : ∀ k i, m i = k → I i → ALoop P c Q (n0 i) (S i) := by
    intro k
    induction k using Nat.strongRecOn with
    | _ k ih =>
      intro i hk hi
      refine aloop_step ((vcode_sound c (round i hi)).mono (andThen_mono ?_))
      intro n s hh
      obtain ⟨n1, s1, hs, j, rfl, rfl, hj, hlt⟩ := atHead_sub hh
      exact ALoop.sub hs.1 (ih (m j) (hk ▸ hlt) j rfl hj)
  fun i hi => ⟨key _ i rfl hi⟩
@[reducible] def nilS : AC := .p (.lit (.slice none 0 0))
@[reducible] def copR (c z : Int) (es : List Eqn) : AV := match es with
  | [] => .agg [.p (.lit (.int .i64 c)), .p (.lit (.int .i64 z)), nilS]
  | _ :: _ => .agg [.p (.lit (.int .i64 c)), .p (.lit (.int .i64 z)), .hs 0 0 es.length]
@[reducible] def copB (es : List Eqn) : List Blk := match es with
  | [] => []
  | _ :: _ => [.arr 2 (es.map eE)]
set_option maxHeartbeats 16000000 in
set_option maxRecDepth 100000 in
theorem l3Copy_own (c z : Int) (es : List Eqn) (hB : SBd c z es) : Good Tryz.prog 78 [solF c z es] [] (copR c z es) (copB es) := by
  have hm : (es.map eE).length = es.length := List.length_map ..
  have hn := hB.n
  refine good_e noM Tryz.func78 rfl rfl ?_
  conv => whnf
  refine VLoop.enter [1, 2, 3, 4] ?_
  conv => whnf
  refine vloop_indN noM [1, 2, 3, 4] (ι := Unit ⊕ (Nat × List (List PV))) (fun i => match i with | .inl _ => 3 | .inr _ => 4)
    (fun i => match i with
      | .inl _ => ⟨38, 0, [(1, .one (.hp 0 0 0)), (2, .one (.hp 1 0 0)), (3, .one (.hp 2 0 0)), (4, vint 0)], [(0, some (.box [.p (.lit (.int .i64 c)), .p (.lit (.int .i64 z)), .p (.sl (es.map eE))])), (1, some (.box [.p (.lit (.int .i64 0)), .p (.lit (.int .i64 0)), nilS])), (2, some (.box [.p (.lit (.int .i64 c)), .p (.lit (.int .i64 z)), nilS]))]⟩
      | .inr (n, E) => ⟨38, 0, [(1, .one (.hp 0 0 0)), (2, .one (.hp 1 0 0)), (3, .one (.hp 2 0 0)), (4, vint n)], [(0, some (.box [.p (.lit (.int .i64 c)), .p (.lit (.int .i64 z)), .p (.sl (es.map eE))])), (1, some (.box [.p (.lit (.int .i64 0)), .p (.lit (.int .i64 0)), nilS])), (2, some (.box [.p (.lit (.int .i64 c)), .p (.lit (.int .i64 z)), .hs 3 0 n])), (3, some (.arr 2 E))]⟩)
    (fun i => match i with
      | .inl _ => True
      | .inr (n, E) => 1 ≤ n ∧ n ≤ es.length ∧ E = (es.take n).map eE) (fun i => match i with | .inl _ => es.length + 1 | .inr (n, _) => es.length - n) ?_ (.inl ()) trivial
  rintro (u | ⟨n, E⟩)
  · rintro -
    cases u
    cases es with
    | nil =>
      conv => whnf
      refine ⟨⟨⟨by decide +kernel, Nat.le_of_ble_eq_true rfl⟩, trivial⟩, ?_⟩
      conv => whnf
      exact ⟨rfl, rfl⟩
    | cons x es =>
      obtain ⟨hxr, hxd⟩ := hB.r x List.mem_cons_self
      have hxl : (x.r.map eI).length = x.r.length := List.length_map ..
      have h0 : decide ((0 : Int) < (((x :: es).map eE).length : Nat)) = true := decide_eq_true (by rw [hm, List.length_cons]; omega)
      conv => whnf
      rw [h0]
      conv => whnf
      refine VDraw.goR [0, 1, 0, 0, 8, 0, 56, 120, 248, 508, 0, 1024, 0, 7168, 15360, 31744, 65532, 131068, 262143, 524287, 1048575] [2, 9, 17, 18, 20] [(9, [2]), (17, [9])] [(20, [2])] rfl (by decide +kernel) ?_
      conv => whnf
      refine ⟨by omega, by rw [hm, List.length_cons]; omega, _, atE (x :: es) (i := 0) rfl rfl, ?_⟩
      conv => whnf
      refine ⟨⟨rfl, rfl, rfl⟩, trivial, ?_⟩
      conv => whnf
      refine ⟨(fun q => by cases q), app3 (by rw [hxl]; show 0 + x.r.length ≤ _; omega), eI_len x.r, ?_⟩
      conv => whnf
      refine ⟨by omega, by rw [hm, List.length_cons]; omega, _, atE (x :: es) (i := 0) rfl rfl, ?_⟩
      conv => whnf
      refine ⟨⟨by rw [List.length_append]; omega, trivial, trivial⟩, ?_⟩
      conv => whnf
      refine ⟨trivial, Nat.le_refl 1, ?_⟩
      conv => whnf
      refine ⟨(fun _ q => by cases q), appE (show 0 + 1 ≤ 1100000 by omega), fun el hel => by cases List.mem_singleton.1 hel; rfl, ?_⟩
      conv => whnf
      rw [show IntKind.i64.wrap (0 + 1) = ((1 : Nat) : Int) from wrap_in _ (by omega) (by omega)]
      refine ⟨.inr (1, _), rfl, rfl, ⟨by omega, by rw [List.length_cons]; omega, ?_⟩, (by show (x :: es).length - 1 < (x :: es).length + 1; omega)⟩
      exact congrArg (fun r => [[PV.sl r, PV.lit (.string x.d)]]) (frzI x.r)
  · rintro ⟨h1, h2, rfl⟩
    have hwi : IntKind.i64.wrap ((n : Int) + 1) = ((n + 1 : Nat) : Int) := by rw [wrap_in _ (by omega) (by omega)]; omega
    have htl : ((es.take n).map eE).length = n := by rw [List.length_map, List.length_take]; omega
    show vcode _ noM _ _ 4 _
    conv => whnf
    rw [hm]
    split
    · rename_i q1
      have q1' := of_decide_eq_true q1
      have en : (n : Int).toNat = n := Int.toNat_natCast n
      obtain ⟨x, hx⟩ : ∃ x, es[n]? = some x := ⟨_, List.getElem?_eq_getElem (by omega)⟩
      have hxm := mem_at hx
      obtain ⟨hxr, hxd⟩ := hB.r x hxm
      have hxl : (x.r.map eI).length = x.r.length := List.length_map ..
      conv => whnf
      refine VDraw.goR [0, 1, 0, 0, 8, 0, 56, 120, 248, 508, 0, 1024, 0, 7168, 15360, 31744, 65532, 131068, 262143, 524287, 1048575] [2, 9, 17, 18, 20] [(9, [2]), (17, [9])] [(18, [3]), (20, [2])] rfl (by decide +kernel) ?_
      conv => whnf
      refine ⟨by omega, by rw [hm]; omega, _, atE es en hx, ?_⟩
      conv => whnf
      refine ⟨⟨rfl, rfl, rfl⟩, trivial, ?_⟩
      conv => whnf
      refine ⟨(fun q => by cases q), app3 (by rw [hxl]; show 0 + x.r.length ≤ _; omega), eI_len x.r, ?_⟩
      conv => whnf
      refine ⟨by omega, by rw [hm]; omega, _, atE es en hx, ?_⟩
      conv => whnf
      refine ⟨⟨by rw [List.length_append]; omega, trivial, trivial⟩, ?_⟩
      conv => whnf
      refine ⟨⟨rfl, htl.symm, rfl⟩, Nat.le_refl 1, ?_⟩
      conv => whnf
      refine ⟨(fun q => by cases q), appE (show ((es.take n).map eE).length + 1 ≤ _ by rw [htl]; omega), fun el hel => by cases List.mem_singleton.1 hel; rfl, ?_⟩
      conv => whnf
      rw [hwi, htl]
      refine ⟨.inr (n + 1, _), rfl, rfl, ⟨by omega, by omega, ?_⟩, (by show es.length - (n + 1) < es.length - n; omega)⟩
      rw [take_snoc hx, List.map_append]
      exact congrArg (fun r => (es.take n).map eE ++ [[PV.sl r, PV.lit (.string x.d)]]) (frzI x.r)
    · rename_i q1
      have q1' := of_decide_eq_false q1
      have e : n = es.length := by omega
      subst e
      rw [List.take_length]
      cases es with
      | nil => exact absurd h1 (by simp)
      | cons x es =>
      conv => whnf
      refine ⟨⟨⟨by decide +kernel, Nat.le_of_ble_eq_true rfl⟩, trivial⟩, ?_⟩
      conv => whnf
      exact ⟨rfl, rfl⟩
theorem l3Copy_ok (c z : Int) (es : List Eqn) (hB : SBd c z es) : Good Tryz.prog 78 [solF c z es] [] (solF c z es) [] := by
  refine good_frz (l3Copy_own c z es hB) ?_ ?_ (fun _ h => by cases h)
  · cases es with
    | nil => exact .v (.agg (.cons .p (.cons .p (.cons .nil .nil))))
    | cons x es => exact .v (.agg (.cons .p (.cons .p (.cons (.sl rfl (List.length_map ..).symm (Nat.zero_le _)) .nil))))
  · cases es <;> rfl
end Go.Abs.F

set_option linter.unusedSimpArgs false
set_option linter.unusedVariables false
namespace Go.Abs.F
open Go Go.Abs Go.Proofs Go.RowKit
attribute [local irreducible] IntKind.wrap
theorem red_snoc {es : List Eqn} {i : Nat} {x : Eqn} (hx : es[i]? = some x) (q : List Int × ByteArray) : red (es.take (i + 1)) q = red1 (red (es.take i) q) x := by
  unfold red
  rw [take_snoc hx, List.foldl_append]; rfl
/-- What a reduction has so far. -/
structure RedQ (c : Int) (z : Nat) (q : List Int × ByteArray) : Prop where
  row : RowP c q.1
  dat : q.2.size = z
theorem redQ_step {c : Int} {z : Nat} {q : List Int × ByteArray} {x : Eqn} (h : RedQ c z q) (h1 : RowP c x.r) (h2 : x.d.size = z) : RedQ c z (red1 q x) := by
  unfold red1
  split
  · exact ⟨rx_row h.row h1, by rw [dx_size (by rw [h.dat, h2]), h.dat]⟩
  · exact h
theorem red1_in {q : List Int × ByteArray} {x : Eqn} (h : pv x ∈ q.1) : red1 q x = (rx q.1 x.r, dx q.2 x.d) := if_pos h
theorem red1_out {q : List Int × ByteArray} {x : Eqn} (h : pv x ∉ q.1) : red1 q x = q := if_neg h
theorem u32ne {a : Nat} : ((a : Int) == 0) = decide (a = 0) := beq0 a
set_option maxHeartbeats 16000000 in
set_option maxRecDepth 100000 in
theorem reduce_ok (c z : Int) (es : List Eqn) (hB : SBd c z es) (zn : Nat) (h : EqOk c zn es) (hc : c ≤ 24) (hz : zn ≤ 1000) (r : List Int) (d : ByteArray) (hr : RowP c r) (hd : d.size = zn) (q : List Int × ByteArray) (hq : q = red es (r, d)) :
    Good Tryz.prog 68 [solF c z es, lit (.int .u32 (mk r)), vstr d] [] (.tup [lit (.int .u32 (mk q.1)), vstr q.2]) [] := by
  have hm : (es.map eE).length = es.length := List.length_map ..
  have hn := hB.n
  refine good_e noM Tryz.func68 rfl rfl ?_
  conv => whnf
  refine VLoop.enter [1, 2, 11, 12, 13] ?_
  conv => whnf
  refine VLoop.ind3 (n0 := 0) (α := Int) (β := List Int) (γ := ByteArray) noM [1, 2, 11, 12, 13] (fun i u e => ⟨37, 0, [(1, lit (.int .u32 (mk u))), (2, vstr e), (11, .one (.p (.sl (es.map eE)))), (12, vint (es.map eE).length), (13, vint i)], []⟩)
    (fun i u e => ∃ j : Nat, i = j ∧ j ≤ es.length ∧ (u, e) = red (es.take j) (r, d) ∧ RedQ c zn (u, e)) (fun i _ _ => ((es.length : Int) - i).toNat) ?_ 0 r d ⟨0, rfl, by omega, rfl, hr, hd⟩
  rintro _ u e ⟨i, rfl, hi, hu, hR⟩
  have hwi : IntKind.i64.wrap ((i : Int) + 1) = ((i + 1 : Nat) : Int) := by rw [wrap_in _ (by omega) (by omega)]; omega
  have hu24 : RowP 24 u := hR.row.mono hc
  have hes : e.size = zn := hR.dat
  conv => whnf
  rw [hm]
  split
  · rename_i q1
    have q1' := of_decide_eq_true q1
    have en : (i : Int).toNat = i := Int.toNat_natCast i
    obtain ⟨x, hx⟩ : ∃ x, es[i]? = some x := ⟨_, List.getElem?_eq_getElem (by omega)⟩
    have hxm := mem_at hx
    obtain ⟨hxr, hxd⟩ := hB.r x hxm
    obtain ⟨h1, h2, h3⟩ := h.row x hxm
    have hx24 : RowP 24 x.r := h1.mono hc
    have hx0 := len0.1 h2
    have hxl : (x.r.map eI).length = x.r.length := List.length_map ..
    obtain ⟨p, hp⟩ : ∃ p : Nat, pv x = p := ⟨(pv x).toNat, by have := hx24.lo _ (pv_mem h2); omega⟩
    have hp24 := hx24.hi _ (pv_mem h2)
    have hg : (x.r.map eI).getD 0 [] = eI (p : Int) := by rw [← hp, ← pv_at h2]; exact atI x.r rfl hx0
    have hbit := bitW (m := mk u) (i := p) (mk32 hu24) (by omega)
    have hhas := mk_has hu24 (p := pv x) (hx24.lo _ (pv_mem h2))
    rw [hp, Int.toNat_natCast, ← hp] at hhas
    have hxw := xorW (mk32 hu24) (mk32 hx24)
    rw [← mk_rx hu24 hx24] at hxw
    have hnx := red_snoc hx (r, d)
    rw [← hu] at hnx
    have hRn := redQ_step hR h1 h3
    conv => whnf
    refine ⟨by omega, by rw [hm]; omega, _, atE es en hx, ?_⟩
    conv => whnf
    refine ⟨by omega, by rw [hxl]; omega, _, hg, ?_⟩
    conv => whnf
    rw [hbit, hhas]
    split
    · rename_i q2
      have q2' := of_decide_eq_true q2
      rw [red1_in q2'] at hnx hRn
      conv => whnf
      refine .mk _ _ false Tryz.call69 (mask_ok x.r (by omega) hx24) (Nat.le_of_ble_eq_true rfl) (.inl rfl) ?_
      conv => whnf
      rw [hxw]
      refine .mk _ _ false Tryz.call72 (implXor_ok e x.d (by rw [hes, h3]) (by omega)) (Nat.le_of_ble_eq_true rfl) (.inl rfl) ?_
      conv => whnf
      exact ⟨_, rx u x.r, _, rfl, rfl, ⟨i + 1, by rw [hwi], by omega, hnx.symm, hRn⟩, by rw [hwi]; omega⟩
    · rename_i q2
      have q2' := of_decide_eq_false q2
      rw [red1_out q2'] at hnx hRn
      conv => whnf
      exact ⟨_, u, _, rfl, rfl, ⟨i + 1, by rw [hwi], by omega, hnx.symm, hRn⟩, by rw [hwi]; omega⟩
  · rename_i q1
    have q1' := of_decide_eq_false q1
    have ei : i = es.length := by omega
    subst ei
    rw [List.take_length, ← hq] at hu
    subst hu
    conv => whnf
    refine ⟨trivial, ?_⟩
    conv => whnf
    exact ⟨rfl, rfl⟩
end Go.Abs.F

set_option linter.unusedSimpArgs false
set_option linter.unusedVariables false
namespace Go.Abs.F
open Go Go.Abs Go.Proofs Go.RowKit
attribute [local irreducible] IntKind.wrap
theorem row_len {r : List Int} (h : RowP 24 r) : r.length ≤ 24 := by
  have h1 := un_mk h
  have h2 : (un (mk r)).length ≤ 24 := by
    unfold un
    rw [List.length_map]
    have := List.length_filter_le (fun i => (mk r).testBit i) (List.range 24)
    rw [List.length_range] at this; exact this
  rw [h1] at h2; exact h2
@[reducible] def eqF (r : List Int) (d : ByteArray) : AV := .agg [.p (slI r), .p (.lit (.string d))]
/-- What a reduction hands back: the row as it was, or a new one. -/
inductive LessR (r : List Int) (d : ByteArray) (q : List Int × ByteArray) : AV → List Blk → Prop
  | old (h : q = (r, d)) : LessR r d q (eqF r d) []
  | new : LessR r d q (.agg [.hs 0 0 q.1.length, .p (.lit (.string q.2))]) [.arr 1 (q.1.map eI)]
theorem takeI (r : List Int) : List.take r.length (List.drop 0 (r.map eI)) = r.map eI := by rw [List.drop_zero, List.take_of_length_le (by rw [List.length_map]; exact Nat.le_refl _)]
theorem arr_noSl (l : List Int) : ∀ k ∈ [Blk.arr 1 (l.map eI)], k.noSl := by
  intro k hk
  cases List.mem_singleton.1 hk
  intro el hel x hx
  obtain ⟨y, _, rfl⟩ := List.mem_map.1 hel
  cases List.mem_singleton.1 hx
  trivial
theorem less_ex (es : List Eqn) (r : List Int) (d : ByteArray) : (∀ x ∈ es, pv x ∉ r) ∨ ∃ i x, es[i]? = some x ∧ pv x ∈ r ∧ ∀ y ∈ es.take i, pv y ∉ r := by
  by_cases h : ∀ x ∈ es, pv x ∉ r
  · exact .inl h
  · right
    induction es with
    | nil => exact absurd (fun x hx => by cases hx) h
    | cons e es ih =>
      by_cases he : pv e ∈ r
      · exact ⟨0, e, rfl, he, fun y hy => by cases hy⟩
      · by_cases h2 : ∀ x ∈ es, pv x ∉ r
        · refine absurd (fun x hx => ?_) h
          rcases List.mem_cons.1 hx with rfl | hx
          · exact he
          · exact h2 x hx
        · obtain ⟨i, x, a1, a2, a3⟩ := ih h2
          refine ⟨i + 1, x, a1, a2, fun y hy => ?_⟩
          rw [List.take_succ_cons] at hy
          rcases List.mem_cons.1 hy with rfl | hy
          · exact he
          · exact a3 y hy
theorem red_id {es : List Eqn} {r : List Int} {d : ByteArray} (h : ∀ x ∈ es, pv x ∉ r) : red es (r, d) = (r, d) := by
  induction es with
  | nil => rfl
  | cons e es ih =>
    show red es (red1 (r, d) e) = _
    rw [red1_out (q := (r, d)) (h e List.mem_cons_self)]
    exact ih fun x hx => h x (List.mem_cons_of_mem _ hx)
set_option maxHeartbeats 16000000 in
set_option maxRecDepth 100000 in
theorem l3Less_own (c z : Int) (es : List Eqn) (hB : SBd c z es) (zn : Nat) (h : EqOk c zn es) (hc : c ≤ 24) (hz : zn ≤ 1000) (r : List Int) (d : ByteArray) (hr : RowP c r) (hd : d.size = zn) (q : List Int × ByteArray) (hq : q = red es (r, d)) :
    ∃ v out, LessR r d q v out ∧ Good Tryz.prog 79 [solF c z es, eqF r d] [] v out := by
  have hm : (es.map eE).length = es.length := List.length_map ..
  have hn := hB.n
  have fin : ∃ v out, LessR r d q v out ∧ ((∀ x ∈ es, pv x ∉ r) → v = eqF r d ∧ out = []) ∧ ((∃ x ∈ es, pv x ∈ r) → v = .agg [.hs 0 0 q.1.length, .p (.lit (.string q.2))] ∧ out = [.arr 1 (q.1.map eI)]) := by
    by_cases hh : ∀ x ∈ es, pv x ∉ r
    · exact ⟨_, _, .old (hq.trans (red_id hh)), fun _ => ⟨rfl, rfl⟩, fun ⟨x, h1, h2⟩ => absurd h2 (hh x h1)⟩
    · exact ⟨_, _, .new, fun h2 => absurd h2 hh, fun _ => ⟨rfl, rfl⟩⟩
  obtain ⟨v, out, hL, hv1, hv2⟩ := fin
  refine ⟨v, out, hL, ?_⟩
  have hr24 : RowP 24 r := hr.mono hc
  have hrl := row_len hr24
  refine good_e noM Tryz.func79 rfl rfl ?_
  conv => whnf
  refine VLoop.enter [2, 3, 4, 5] ?_
  conv => whnf
  refine vloop_indN noM [2, 3, 4, 5] (ι := Nat ⊕ (Nat × List Int × ByteArray)) (fun i => match i with | .inl _ => 3 | .inr _ => 4)
    (fun i => match i with
      | .inl i => ⟨44, 0, [(2, .one (.hp 0 0 0)), (3, .one (.hp 1 0 0)), (4, .one (.hp 2 0 0)), (5, vint i)], [(0, some (.box [.p (.lit (.int .i64 c)), .p (.lit (.int .i64 z)), .p (.sl (es.map eE))])), (1, some (.box [.p (slI r), .p (.lit (.string d))])), (2, some (.box [nilS, .p (.lit (.string ⟨#[]⟩))]))]⟩
      | .inr (i, u, e) => ⟨44, 0, [(2, .one (.hp 0 0 0)), (3, .one (.hp 1 0 0)), (4, .one (.hp 2 0 0)), (5, vint i)], [(0, some (.box [.p (.lit (.int .i64 c)), .p (.lit (.int .i64 z)), .p (.sl (es.map eE))])), (1, some (.box [.hs 3 0 u.length, .p (.lit (.string e))])), (2, some (.box [nilS, .p (.lit (.string ⟨#[]⟩))])), (3, some (.arr 1 (u.map eI)))]⟩)
    (fun i => match i with
      | .inl i => i ≤ es.length ∧ ∀ x ∈ es.take i, pv x ∉ r
      | .inr (i, u, e) => i ≤ es.length ∧ (u, e) = red (es.take i) (r, d) ∧ RedQ c zn (u, e) ∧ ∃ x ∈ es, pv x ∈ r) (fun i => match i with | .inl i => es.length - i | .inr (i, _, _) => es.length - i) ?_ (.inl 0) ⟨Nat.zero_le _, fun x hx => by cases hx⟩
  have at_ : ∀ i : Nat, (i : Int) < es.length → ∃ x, es[i]? = some x := fun i hi => ⟨_, List.getElem?_eq_getElem (by omega)⟩
  rintro (i | ⟨i, u, e⟩)
  · rintro ⟨hi, hp⟩
    have hwi : IntKind.i64.wrap ((i : Int) + 1) = ((i + 1 : Nat) : Int) := by rw [wrap_in _ (by omega) (by omega)]; omega
    show vcode _ noM _ _ 3 _
    conv => whnf
    rw [hm]
    split
    · rename_i q1
      have q1' := of_decide_eq_true q1
      have en : (i : Int).toNat = i := Int.toNat_natCast i
      obtain ⟨x, hx⟩ := at_ i q1'
      have hxm := mem_at hx
      obtain ⟨hxr, hxd⟩ := hB.r x hxm
      obtain ⟨h1, h2, h3⟩ := h.row x hxm
      have hx0 := len0.1 h2
      have hxl : (x.r.map eI).length = x.r.length := List.length_map ..
      have hg : (x.r.map eI).getD 0 [] = eI (pv x) := by rw [← pv_at h2]; exact atI x.r rfl hx0
      conv => whnf
      refine VDraw.goR [0, 1, 0, 4, 0, 28, 60, 124, 252, 508, 1023] [10] [] [] rfl (by decide +kernel) ?_
      conv => whnf
      refine ⟨by omega, by rw [hm]; omega, _, atE es en hx, ?_⟩
      conv => whnf
      refine ⟨by omega, by rw [hxl]; omega, _, hg, ?_⟩
      conv => whnf
      refine .mk _ _ false Tryz.call81 (has_ok r (pv x) (by omega)) (Nat.le_of_ble_eq_true rfl) (.inl rfl) ?_
      conv => whnf
      split
      · rename_i q2
        have q2' := of_decide_eq_true q2
        conv => whnf
        refine VDraw.goR [0, 1, 0, 4, 0, 28, 60, 124, 255, 0, 512, 0, 2048, 0, 14336, 30720, 63488, 131071, 262143, 524287] [8, 17, 19] [] [(19, [1])] rfl (by decide +kernel) ?_
        conv => whnf
        refine ⟨by omega, by rw [hm]; omega, _, atE es en hx, ?_⟩
        conv => whnf
        refine .mk _ _ false Tryz.call82 (l2Xor_ok r x.r (by omega) (by omega)) (Nat.le_of_ble_eq_true rfl) (.inl rfl) ?_
        conv => whnf
        refine ⟨by omega, by rw [hm]; omega, _, atE es en hx, ?_⟩
        conv => whnf
        refine .mk _ _ false Tryz.call83 (specXor_ok d x.d (by omega) (by omega)) (Nat.le_of_ble_eq_true rfl) (.inl rfl) ?_
        conv => whnf
        rw [hwi]
        have hnx := red_snoc hx (r, d)
        rw [red_id hp, red1_in (q := (r, d)) q2'] at hnx
        exact ⟨.inr (i + 1, rx r x.r, dx d x.d), rfl, rfl, ⟨by omega, hnx.symm, ⟨rx_row hr h1, by show (dx d x.d).size = zn; rw [dx_size (by omega), hd]⟩, x, hxm, q2'⟩, (by show es.length - (i + 1) < es.length - i; omega)⟩
      · rename_i q2
        have q2' := of_decide_eq_false q2
        conv => whnf
        rw [hwi]
        refine ⟨.inl (i + 1), rfl, rfl, ⟨by omega, fun y hy => ?_⟩, (by show es.length - (i + 1) < es.length - i; omega)⟩
        rw [take_snoc hx] at hy
        rcases List.mem_append.1 hy with hy | hy
        · exact hp y hy
        · rw [List.mem_singleton.1 hy]; exact q2'
    · rename_i q1
      have q1' := of_decide_eq_false q1
      rw [List.take_of_length_le (by omega)] at hp
      obtain ⟨rfl, rfl⟩ := hv1 hp
      conv => whnf
      refine ⟨⟨⟨by decide +kernel, Nat.le_of_ble_eq_true rfl⟩, trivial⟩, ?_⟩
      conv => whnf
      exact ⟨rfl, rfl⟩
  · rintro ⟨hi, hu, hR, hex⟩
    have hwi : IntKind.i64.wrap ((i : Int) + 1) = ((i + 1 : Nat) : Int) := by rw [wrap_in _ (by omega) (by omega)]; omega
    have hul := row_len (hR.row.mono hc)
    have hes : e.size = zn := hR.dat
    have hum : (u.map eI).length = u.length := List.length_map ..
    simp only at hul
    show vcode _ noM _ _ 4 _
    conv => whnf
    rw [hm]
    split
    · rename_i q1
      have q1' := of_decide_eq_true q1
      have en : (i : Int).toNat = i := Int.toNat_natCast i
      obtain ⟨x, hx⟩ := at_ i q1'
      have hxm := mem_at hx
      obtain ⟨hxr, hxd⟩ := hB.r x hxm
      obtain ⟨h1, h2, h3⟩ := h.row x hxm
      have hx0 := len0.1 h2
      have hxl : (x.r.map eI).length = x.r.length := List.length_map ..
      have hg : (x.r.map eI).getD 0 [] = eI (pv x) := by rw [← pv_at h2]; exact atI x.r rfl hx0
      have hnx := red_snoc hx (r, d)
      rw [← hu] at hnx
      have hRn := redQ_step hR h1 h3
      have gh := has_ok u (pv x) (by omega)
      have gx := l2Xor_ok u x.r (by omega) (by omega)
      rw [slI, ← takeI u] at gh gx
      conv => whnf
      refine VDraw.goR [0, 1, 0, 4, 0, 28, 60, 124, 252, 508, 1023] [10] [] [] rfl (by decide +kernel) ?_
      conv => whnf
      refine ⟨by omega, by rw [hm]; omega, _, atE es en hx, ?_⟩
      conv => whnf
      refine ⟨by omega, by rw [hxl]; omega, _, hg, ?_⟩
      conv => whnf
      refine ⟨by rw [hum]; omega, ?_⟩
      conv => whnf
      refine .mk _ _ false Tryz.call81 gh (Nat.le_of_ble_eq_true rfl) (.inr ⟨AV.nsB_iff rfl, fun k hk => by cases hk⟩) ?_
      conv => whnf
      split
      · rename_i q2
        have q2' := of_decide_eq_true q2
        rw [red1_in (q := (u, e)) q2'] at hnx hRn
        conv => whnf
        refine VDraw.goR [0, 1, 0, 4, 0, 28, 60, 124, 255, 0, 512, 0, 2048, 0, 14336, 30720, 63488, 131071, 262143, 524287] [8, 17, 19] [] [(19, [1])] rfl (by decide +kernel) ?_
        conv => whnf
        refine ⟨by omega, by rw [hm]; omega, _, atE es en hx, ?_⟩
        conv => whnf
        refine ⟨by rw [hum]; omega, ?_⟩
        conv => whnf
        refine .mk _ _ false Tryz.call82 gx (Nat.le_of_ble_eq_true rfl) (.inr ⟨AV.nsB_iff rfl, arr_noSl _⟩) ?_
        conv => whnf
        refine ⟨by omega, by rw [hm]; omega, _, atE es en hx, ?_⟩
        conv => whnf
        refine .mk _ _ false Tryz.call83 (specXor_ok e x.d (by omega) (by omega)) (Nat.le_of_ble_eq_true rfl) (.inl rfl) ?_
        conv => whnf
        rw [hwi]
        exact ⟨.inr (i + 1, rx u x.r, dx e x.d), rfl, rfl, ⟨by omega, hnx.symm, hRn, hex⟩, (by show es.length - (i + 1) < es.length - i; omega)⟩
      · rename_i q2
        have q2' := of_decide_eq_false q2
        rw [red1_out (q := (u, e)) q2'] at hnx hRn
        conv => whnf
        rw [hwi]
        exact ⟨.inr (i + 1, u, e), rfl, rfl, ⟨by omega, hnx.symm, hRn, hex⟩, (by show es.length - (i + 1) < es.length - i; omega)⟩
    · rename_i q1
      have q1' := of_decide_eq_false q1
      rw [List.take_of_length_le (by omega), ← hq] at hu
      subst hu
      obtain ⟨rfl, rfl⟩ := hv2 hex
      conv => whnf
      refine ⟨⟨⟨by decide +kernel, Nat.le_of_ble_eq_true rfl⟩, trivial⟩, ?_⟩
      conv => whnf
      exact ⟨rfl, rfl⟩
theorem l3Less_ok (c z : Int) (es : List Eqn) (hB : SBd c z es) (zn : Nat) (h : EqOk c zn es) (hc : c ≤ 24) (hz : zn ≤ 1000) (r : List Int) (d : ByteArray) (hr : RowP c r) (hd : d.size = zn) (q : List Int × ByteArray) (hq : q = red es (r, d)) :
    Good Tryz.prog 79 [solF c z es, eqF r d] [] (eqF q.1 q.2) [] := by
  obtain ⟨v, out, hL, hg⟩ := l3Less_own c z es hB zn h hc hz r d hr hd q hq
  cases hL with
  | old h => rw [h]; exact hg
  | new => exact good_frz hg (.v (.agg (.cons (.sl rfl (List.length_map ..).symm (Nat.zero_le _)) (.cons .p .nil)))) rfl (fun _ h => by cases h)
end Go.Abs.F

set_option linter.unusedSimpArgs false
set_option linter.unusedVariables false
namespace Go.Abs.F
open Go Go.Abs Go.Proofs Go.RowKit
attribute [local irreducible] IntKind.wrap
theorem eqs_len0 {c z : Int} {es : List Eqn} (h : SOk c z es) : es.length ≤ 1000 := by
  have hp : RowP c (es.map pv) := by
    refine ⟨by rw [List.pairwise_map]; exact h.eq.asc, fun x hx => ?_, fun x hx => ?_⟩
    · obtain ⟨e, he, rfl⟩ := List.mem_map.1 hx
      exact (h.eq.row e he).1.lo _ (pv_mem (h.eq.row e he).2.1)
    · obtain ⟨e, he, rfl⟩ := List.mem_map.1 hx
      exact (h.eq.row e he).1.hi _ (pv_mem (h.eq.row e he).2.1)
  have := row_len (hp.mono h.c2)
  rw [List.length_map] at this
  omega
end Go.Abs.F

set_option linter.unusedSimpArgs false
set_option linter.unusedVariables false
namespace Go.Abs.F
open Go Go.Abs Go.Proofs Go.RowKit
attribute [local irreducible] IntKind.wrap
theorem insE_gt {t : Eqn} : ∀ {l : List Eqn} (m : List Eqn), (∀ e ∈ l, ¬ pv t < pv e) → insE t (l ++ m) = l ++ insE t m
  | [], m, _ => rfl
  | e :: l, m, h => by
    show (if pv t < pv e then t :: e :: (l ++ m) else e :: insE t (l ++ m)) = _
    rw [if_neg (h e List.mem_cons_self), insE_gt m fun f hf => h f (List.mem_cons_of_mem _ hf)]; rfl
theorem insE_lt {t : Eqn} : ∀ {l : List Eqn} (m : List Eqn), (∃ e ∈ l, pv t < pv e) → insE t (l ++ m) = insE t l ++ m
  | [], m, h => by obtain ⟨e, he, _⟩ := h; cases he
  | e :: l, m, h => by
    show (if pv t < pv e then t :: e :: (l ++ m) else e :: insE t (l ++ m)) = (if pv t < pv e then t :: e :: l else e :: insE t l) ++ m
    by_cases q : pv t < pv e
    · rw [if_pos q, if_pos q]; rfl
    · rw [if_neg q, if_neg q, insE_lt m]
      · rfl
      · obtain ⟨f, hf, h2⟩ := h
        rcases List.mem_cons.1 hf with rfl | hf
        · exact absurd h2 q
        · exact ⟨f, hf, h2⟩
theorem beqS (a b : ByteArray) : (a.toList == b.toList) = decide (a = b) := by
  rw [Bool.eq_iff_iff, decide_eq_true_eq]; exact str_eq
theorem insE_one {t f : Eqn} (h : pv t < pv f) : insE t [f] = [t, f] := if_pos h
theorem app1 {E a b : List (List PV)} (h : a = b) : E ++ a = E ++ b := by rw [h]
theorem app2 {E a b c d : List (List PV)} (h : a = b) (h2 : c = d) : E ++ a ++ c = E ++ b ++ d := by rw [h, h2]
/-- What comes of an equation that is learnt. -/
def addR (es : List Eqn) (q : List Int × ByteArray) (z : Nat) : List Eqn × Int := if q.1 = [] then (es, if q.2 = zs z then 1 else 2) else (addE es ⟨q.1, q.2⟩, 0)
inductive AddR (c z : Int) (A : List Eqn × Int) : AV → List Blk → Prop
  | old : AddR c z A (.tup [solF c z A.1, vint A.2]) []
  | new : AddR c z A (.tup [.agg [.p (.lit (.int .i64 c)), .p (.lit (.int .i64 z)), .hs 0 0 A.1.length], vint A.2]) [.arr 2 (A.1.map eE)]
set_option maxHeartbeats 16000000 in
set_option maxRecDepth 100000 in
theorem l3Add_own (c z : Int) (es : List Eqn) (hB : SBd c z es) (h : SOk c z es) (r : List Int) (d : ByteArray) (hr : RowP c r) (hd : d.size = z.toNat) (q : List Int × ByteArray) (hq : q = red es (r, d)) (A : List Eqn × Int) (hA : A = addR es q z.toNat) :
    ∃ v out, AddR c z A v out ∧ Good Tryz.prog 34 [solF c z es, .one (.p (slI r)), vstr d] [] v out := by
  have hm : (es.map eE).length = es.length := List.length_map ..
  have hn := eqs_len0 h
  have hz1 := h.z1; have hz2 := h.z2; have hc2 := h.c2
  have hR : RedP c z.toNat es q := hq ▸ red_ok h.eq hr hd
  have hrl := row_len (hr.mono hc2)
  have hrm : (r.map eI).length = r.length := List.length_map ..
  obtain ⟨u, e⟩ := q
  have hul := row_len (hR.row.mono hc2)
  have hes : e.size = z.toNat := hR.dat
  have hum : (u.map eI).length = u.length := List.length_map ..
  simp only at hul
  have gl := l3Less_ok c z es hB z.toNat h.eq hc2 (by omega) r d hr hd (u, e) hq
  simp only at gl
  rw [eqF, slI, ← frzI r] at gl
  obtain ⟨zc, hzc⟩ : ∃ zc : Nat, z = zc := ⟨z.toNat, by omega⟩
  have hzt : z.toNat = zc := by omega
  have fin : ∃ v out, AddR c z A v out ∧ (u = [] → v = .tup [solF c z A.1, vint A.2] ∧ out = []) ∧ (u ≠ [] → v = .tup [.agg [.p (.lit (.int .i64 c)), .p (.lit (.int .i64 z)), .hs 0 0 A.1.length], vint A.2] ∧ out = [.arr 2 (A.1.map eE)]) := by
    by_cases hh : u = []
    · exact ⟨_, _, .old, fun _ => ⟨rfl, rfl⟩, fun h2 => absurd hh h2⟩
    · exact ⟨_, _, .new, fun h2 => absurd h2 hh, fun _ => ⟨rfl, rfl⟩⟩
  obtain ⟨v, out, hL, hv1, hv2⟩ := fin
  refine ⟨v, out, hL, ?_⟩
  refine good_e noM Tryz.func34 rfl rfl ?_
  conv => whnf
  refine VDraw.goR [0, 0, 0, 6, 0, 30, 63, 0, 255] [1, 3, 6, 7, 8] [(3, [1]), (6, [3]), (8, [7])] [] rfl (by decide +kernel) ?_
  conv => whnf
  refine ⟨⟨rfl, rfl, rfl⟩, trivial, ?_⟩
  conv => whnf
  refine ⟨(fun q => by cases q), app3 (by rw [hrm]; show 0 + r.length ≤ _; omega), eI_len r, ?_⟩
  conv => whnf
  refine ⟨by rw [List.length_append]; omega, ?_⟩
  conv => whnf
  refine .mk _ _ true Tryz.call79 gl (Nat.le_of_ble_eq_true rfl) (fun b hb => by cases List.mem_singleton.1 hb; exact Nat.le_of_ble_eq_true rfl) ?_
  conv => whnf
  refine .mk _ _ false Tryz.call78 (l3Copy_ok c z es hB) (Nat.le_of_ble_eq_true rfl) (.inl rfl) ?_
  conv => whnf
  rw [hum, beq0]
  cases hu0 : decide (u.length = 0) with
  | true =>
    have hu1 : u = [] := List.eq_nil_of_length_eq_zero (of_decide_eq_true hu0)
    subst hu1
    obtain ⟨rfl, rfl⟩ := hv1 rfl
    have hA2 : A = (es, if e = zs zc then 1 else 2) := by rw [hA, ← hzt]; exact if_pos rfl
    subst hA2
    conv => whnf
    refine VDraw.goR [0, 1, 0, 4, 12, 31] [4] [] [] rfl (by decide +kernel) ?_
    conv => whnf
    rw [hzc]
    refine .mk _ _ false Tryz.call80 (l3Zero_ok zc (by omega)) (Nat.le_of_ble_eq_true rfl) (.inl rfl) ?_
    conv => whnf
    rw [beqS]
    by_cases hz0 : e = zs zc
    · rw [if_pos hz0, decide_eq_true hz0]
      conv => whnf
      refine ⟨⟨⟨by decide +kernel, Nat.le_of_ble_eq_true rfl⟩, trivial⟩, ?_⟩
      conv => whnf
      exact ⟨rfl, rfl⟩
    · rw [if_neg hz0, decide_eq_false hz0]
      conv => whnf
      refine ⟨⟨⟨by decide +kernel, Nat.le_of_ble_eq_true rfl⟩, trivial⟩, ?_⟩
      conv => whnf
      exact ⟨rfl, rfl⟩
  | false =>
    have hu1 : u ≠ [] := fun q => by subst q; cases hu0
    obtain ⟨rfl, rfl⟩ := hv2 hu1
    obtain ⟨t, ht⟩ : ∃ t : Eqn, t = ⟨u, e⟩ := ⟨_, rfl⟩
    have htr : t.r = u := by rw [ht]
    have htd : t.d = e := by rw [ht]
    have hA2 : A = (addE es t, 0) := by rw [hA, ht]; exact if_neg hu1
    subst hA2
    have hsub : ∀ {x : Eqn}, x ∈ es → SubP c z.toNat t x (sub1 t x) := fun hx => sub1_ok h.eq (by rw [htr, htd]; exact hR) (by rw [htr]; exact hu1) hx
    have hg : (u.map eI).getD 0 [] = eI (pv t) := by rw [ht, ← pv_at (e := ⟨u, e⟩) hu1]; exact atI u rfl (List.length_pos_iff.2 hu1)
    have hul0 : 0 < u.length := List.length_pos_iff.2 hu1
    conv => whnf
    refine VLoop.enter [6, 8, 9, 10, 11, 12] ?_
    conv => whnf
    have htm : eE t = [PV.sl (u.map eI), PV.lit (.string e)] := by rw [ht]
    refine vloop_indN noM [6, 8, 9, 10, 11, 12] (ι := Unit ⊕ (Nat × Bool × Nat × List (List PV))) (fun i => match i with | .inl _ => 4 | .inr _ => 5)
      (fun i => match i with
        | .inl _ => ⟨104, 0, [(6, .one (.hp 0 0 0)), (8, .one (.hp 1 0 0)), (9, .one (.hp 2 0 0)), (10, .one (.hp 3 0 0)), (11, vbool false), (12, vint 0)], [(0, some (.box [.p (.lit (.int .i64 0)), .p (.lit (.int .i64 0)), nilS])), (1, some (.box [.p (slI u), .p (.lit (.string e))])), (2, some (.box [.p (.lit (.int .i64 c)), .p (.lit (.int .i64 z)), .p (.sl (es.map eE))])), (3, some (.box [.p (.lit (.int .i64 c)), .p (.lit (.int .i64 z)), nilS]))]⟩
        | .inr (i, done, n, E) => ⟨104, 0, [(6, .one (.hp 0 0 0)), (8, .one (.hp 1 0 0)), (9, .one (.hp 2 0 0)), (10, .one (.hp 3 0 0)), (11, vbool done), (12, vint i)], [(0, some (.box [.p (.lit (.int .i64 0)), .p (.lit (.int .i64 0)), nilS])), (1, some (.box [.p (slI u), .p (.lit (.string e))])), (2, some (.box [.p (.lit (.int .i64 c)), .p (.lit (.int .i64 z)), .p (.sl (es.map eE))])), (3, some (.box [.p (.lit (.int .i64 c)), .p (.lit (.int .i64 z)), .hs 4 0 n])), (4, some (.arr 2 E))]⟩)
      (fun i => match i with
        | .inl _ => True
        | .inr (i, done, n, E) => 1 ≤ i ∧ i ≤ es.length ∧ ∃ L : List Eqn, n = L.length ∧ E = L.map eE ∧ L.length ≤ i + 1 ∧ match done with
          | true => (∃ f ∈ (es.take i).map (sub1 t), pv t < pv f) ∧ L = insE t ((es.take i).map (sub1 t))
          | false => (∀ f ∈ (es.take i).map (sub1 t), ¬ pv t < pv f) ∧ L = (es.take i).map (sub1 t)) (fun i => match i with | .inl _ => es.length + 1 | .inr (i, _, _, _) => es.length - i) ?_ (.inl ()) trivial
    rintro (uu | ⟨i, done, n, E⟩)
    · rintro -
      cases uu
      show vcode _ noM _ _ 4 _
      conv => whnf
      rw [hm]
      have hw1 : IntKind.i64.wrap (0 + 1) = ((1 : Nat) : Int) := wrap_in _ (by omega) (by omega)
      cases es with
      | nil =>
        conv => whnf
        refine ⟨trivial, Nat.le_refl 1, ?_⟩
        conv => whnf
        refine ⟨(fun _ q => by cases q), appE (show 0 + 1 ≤ 1100000 by omega), fun el hel => by cases List.mem_singleton.1 hel; rfl, ?_⟩
        conv => whnf
        refine ⟨⟨⟨by decide +kernel, Nat.le_of_ble_eq_true rfl⟩, trivial⟩, ?_⟩
        conv => whnf
        refine ⟨rfl, ?_⟩
        show [Blk.arr 2 [[PV.sl (u.map eI), PV.lit (.string e)]]] = [Blk.arr 2 [eE t]]
        rw [htm]
      | cons x es =>
        have hx : (x :: es)[0]? = some x := rfl
        have en : (0 : Int).toNat = 0 := rfl
        have h0 : decide ((0 : Int) < ((x :: es).length : Nat)) = true := decide_eq_true (by rw [List.length_cons]; omega)
        conv => whnf
        rw [h0]
        obtain ⟨EE, hEE⟩ : ∃ EE, EE = x :: es := ⟨_, rfl⟩

        have hxm := mem_at hx
        obtain ⟨hxr, hxd⟩ := hB.r x hxm
        obtain ⟨h1, h2, h3⟩ := h.eq.row x hxm
        have hS := hsub hxm
        have hx0 := len0.1 h2
        have hxl : (x.r.map eI).length = x.r.length := List.length_map ..
        have hxg : (x.r.map eI).getD 0 [] = eI (pv x) := by rw [← pv_at h2]; exact atI x.r rfl hx0
        have hpf : pv (sub1 t x) = pv x := hS.pv_
        conv => whnf
        refine ⟨by omega, by rw [hm, List.length_cons]; omega, _, atE (x :: es) en hx, ?_⟩
        conv => whnf
        refine VDraw.goR [0, 1, 0, 4, 12, 28, 63] [6] [] [] rfl (by decide +kernel) ?_
        conv => whnf
        refine ⟨by omega, by rw [hum]; omega, _, hg, ?_⟩
        conv => whnf
        refine .mk _ _ false Tryz.call81 (has_ok x.r (pv t) (by omega)) (Nat.le_of_ble_eq_true rfl) (.inl rfl) ?_
        conv => whnf
        split
        · rename_i q2
          have q2p := of_decide_eq_true q2
          have hf : sub1 t x = ⟨rx x.r u, dx x.d e⟩ := by unfold sub1; rw [if_pos q2p, htr, htd]
          obtain ⟨fr, hfr⟩ : ∃ fr, fr = rx x.r u := ⟨_, rfl⟩
          obtain ⟨fd, hfd⟩ : ∃ fd, fd = dx x.d e := ⟨_, rfl⟩
          rw [← hfr, ← hfd] at hf
          have hfne : fr ≠ [] := by have := hS.ne; rw [hf] at this; exact this
          have hfp : pv ⟨fr, fd⟩ = pv x := by rw [← hf]; exact hpf
          have hfl : (fr.map eI).length = fr.length := List.length_map ..
          have hfl0 : 0 < fr.length := List.length_pos_iff.2 hfne
          have hfg : (fr.map eI).getD 0 [] = eI (pv x) := by rw [← hfp, ← pv_at (e := ⟨fr, fd⟩) hfne]; exact atI fr rfl hfl0
          conv => whnf
          refine VDraw.goR [0, 1, 0, 4, 15, 0, 32, 0, 128, 511, 1023, 2047] [4, 9, 11] [] [(11, [84])] rfl (by decide +kernel) ?_
          conv => whnf
          refine .mk _ _ false Tryz.call82 (l2Xor_ok x.r u (by omega) (by omega)) (Nat.le_of_ble_eq_true rfl) (.inl rfl) ?_
          conv => whnf
          refine .mk _ _ false Tryz.call83 (specXor_ok x.d e (by omega) (by omega)) (Nat.le_of_ble_eq_true rfl) (.inl rfl) ?_
          conv => whnf
          rw [← hfr, ← hfd]
          refine VDraw.goR [0, 1, 3, 7, 15, 31, 63, 7, 135, 391, 903, 2047, 4095] [] [] [] rfl (by decide +kernel) ?_
          conv => whnf
          refine ⟨by omega, by omega, by rw [hfl]; omega, ?_⟩
          conv => whnf
          refine ⟨_, hfg, ?_⟩
          conv => whnf
          refine ⟨by omega, by rw [hum]; omega, _, hg, ?_⟩
          conv => whnf
          split
          · rename_i q5
            have q5p := of_decide_eq_true q5
            conv => whnf
            refine ⟨trivial, Nat.le_refl 1, ?_⟩
            conv => whnf
            refine ⟨(fun _ q => by cases q), appE (show 0 + 1 ≤ 1100000 by omega), fun el hel => by cases List.mem_singleton.1 hel; rfl, ?_⟩
            conv => whnf
            refine ⟨⟨by rw [hfl]; omega, trivial, trivial⟩, ?_⟩
            conv => whnf
            refine ⟨⟨rfl, rfl, rfl⟩, Nat.le_refl 1, ?_⟩
            conv => whnf
            refine ⟨(fun q => by cases q), appE (show 1 + 1 ≤ 1100000 by omega), fun el hel => by cases List.mem_singleton.1 hel; rfl, ?_⟩
            conv => whnf
            rw [hw1]
            refine ⟨.inr (1, true, _, _), rfl, rfl, ⟨by omega, by rw [List.length_cons]; omega, ([] : List Eqn) ++ [t] ++ [sub1 t x], ?_, ?_, (by simp only [List.length_append, List.length_cons, List.length_nil]; omega), ?_⟩, (by show (x :: es).length - 1 < (x :: es).length + 1; omega)⟩
            · rfl
            · exact app2 (show [[PV.sl (u.map eI), PV.lit (.string e)]] = [t].map eE from by rw [List.map_cons, htm]; rfl) (show [[PV.sl (List.take fr.length (List.drop 0 (fr.map eI))), PV.lit (.string fd)]] = [sub1 t x].map eE from by rw [takeI, hf]; rfl)
            · refine ⟨⟨sub1 t x, List.mem_singleton.2 rfl, by rw [hpf]; exact q5p⟩, ?_⟩
              exact (insE_one (by rw [hpf]; exact q5p)).symm
          · rename_i q5
            have q5p := of_decide_eq_false q5
            conv => whnf
            refine ⟨⟨by rw [hfl]; omega, trivial, trivial⟩, ?_⟩
            conv => whnf
            refine ⟨trivial, Nat.le_refl 1, ?_⟩
            conv => whnf
            refine ⟨(fun _ q => by cases q), appE (show 0 + 1 ≤ 1100000 by omega), fun el hel => by cases List.mem_singleton.1 hel; rfl, ?_⟩
            conv => whnf
            rw [hw1]
            refine ⟨.inr (1, false, _, _), rfl, rfl, ⟨by omega, by rw [List.length_cons]; omega, ([] : List Eqn) ++ [sub1 t x], ?_, ?_, (by simp only [List.length_append, List.length_cons, List.length_nil]; omega), ?_⟩, (by show (x :: es).length - 1 < (x :: es).length + 1; omega)⟩
            · rfl
            · exact app1 (show [[PV.sl (List.take fr.length (List.drop 0 (fr.map eI))), PV.lit (.string fd)]] = [sub1 t x].map eE from by rw [takeI, hf]; rfl)
            · refine ⟨fun f hf1 => ?_, rfl⟩
              rw [List.mem_singleton.1 hf1, hpf]; exact q5p
        · rename_i q2
          have q2p := of_decide_eq_false q2
          have hf : sub1 t x = x := by unfold sub1; rw [if_neg q2p]
          conv => whnf
          refine VDraw.goR [0, 1, 3, 7, 15, 31, 63, 7, 135, 391, 903, 2047, 4095] [] [] [] rfl (by decide +kernel) ?_
          conv => whnf
          refine ⟨by omega, by rw [hxl]; omega, _, hxg, ?_⟩
          conv => whnf
          refine ⟨by omega, by rw [hum]; omega, _, hg, ?_⟩
          conv => whnf
          split
          · rename_i q5
            have q5p := of_decide_eq_true q5
            conv => whnf
            refine ⟨trivial, Nat.le_refl 1, ?_⟩
            conv => whnf
            refine ⟨(fun _ q => by cases q), appE (show 0 + 1 ≤ 1100000 by omega), fun el hel => by cases List.mem_singleton.1 hel; rfl, ?_⟩
            conv => whnf
            refine ⟨⟨rfl, rfl, rfl⟩, Nat.le_refl 1, ?_⟩
            conv => whnf
            refine ⟨(fun q => by cases q), appE (show 1 + 1 ≤ 1100000 by omega), fun el hel => by cases List.mem_singleton.1 hel; rfl, ?_⟩
            conv => whnf
            rw [hw1]
            refine ⟨.inr (1, true, _, _), rfl, rfl, ⟨by omega, by rw [List.length_cons]; omega, ([] : List Eqn) ++ [t] ++ [sub1 t x], ?_, ?_, (by simp only [List.length_append, List.length_cons, List.length_nil]; omega), ?_⟩, (by show (x :: es).length - 1 < (x :: es).length + 1; omega)⟩
            · rfl
            · exact app2 (show [[PV.sl (u.map eI), PV.lit (.string e)]] = [t].map eE from by rw [List.map_cons, htm]; rfl) (show [[PV.sl (x.r.map eI), PV.lit (.string x.d)]] = [sub1 t x].map eE from by rw [hf]; rfl)
            · refine ⟨⟨sub1 t x, List.mem_singleton.2 rfl, by rw [hpf]; exact q5p⟩, ?_⟩
              exact (insE_one (by rw [hpf]; exact q5p)).symm
          · rename_i q5
            have q5p := of_decide_eq_false q5
            conv => whnf
            refine ⟨trivial, Nat.le_refl 1, ?_⟩
            conv => whnf
            refine ⟨(fun _ q => by cases q), appE (show 0 + 1 ≤ 1100000 by omega), fun el hel => by cases List.mem_singleton.1 hel; rfl, ?_⟩
            conv => whnf
            rw [hw1]
            refine ⟨.inr (1, false, _, _), rfl, rfl, ⟨by omega, by rw [List.length_cons]; omega, ([] : List Eqn) ++ [sub1 t x], ?_, ?_, (by simp only [List.length_append, List.length_cons, List.length_nil]; omega), ?_⟩, (by show (x :: es).length - 1 < (x :: es).length + 1; omega)⟩
            · rfl
            · exact app1 (show [[PV.sl (x.r.map eI), PV.lit (.string x.d)]] = [sub1 t x].map eE from by rw [hf]; rfl)
            · refine ⟨fun f hf1 => ?_, rfl⟩
              rw [List.mem_singleton.1 hf1, hpf]; exact q5p
    · rintro ⟨hi0, hi1, L, rfl, rfl, hLl, hI⟩
      have hwi : IntKind.i64.wrap ((i : Int) + 1) = ((i + 1 : Nat) : Int) := by rw [wrap_in _ (by omega) (by omega)]; omega
      show vcode _ noM _ _ 5 _
      conv => whnf
      rw [hm]
      split
      · rename_i q1
        have q1p := of_decide_eq_true q1
        have en : (i : Int).toNat = i := Int.toNat_natCast i
        obtain ⟨x, hx⟩ : ∃ x, es[i]? = some x := ⟨_, List.getElem?_eq_getElem (by omega)⟩
        have hxm := mem_at hx
        obtain ⟨hxr, hxd⟩ := hB.r x hxm
        obtain ⟨h1, h2, h3⟩ := h.eq.row x hxm
        have hS := hsub hxm
        have hx0 := len0.1 h2
        have hxl : (x.r.map eI).length = x.r.length := List.length_map ..
        have hxg : (x.r.map eI).getD 0 [] = eI (pv x) := by rw [← pv_at h2]; exact atI x.r rfl hx0
        have hpf : pv (sub1 t x) = pv x := hS.pv_
        conv => whnf
        refine ⟨by omega, by rw [hm]; omega, _, atE es en hx, ?_⟩
        conv => whnf
        refine VDraw.goR [0, 1, 0, 4, 12, 28, 63] [6] [] [] rfl (by decide +kernel) ?_
        conv => whnf
        refine ⟨by omega, by rw [hum]; omega, _, hg, ?_⟩
        conv => whnf
        refine .mk _ _ false Tryz.call81 (has_ok x.r (pv t) (by omega)) (Nat.le_of_ble_eq_true rfl) (.inl rfl) ?_
        conv => whnf
        split
        · rename_i q2
          have q2p := of_decide_eq_true q2
          have hf : sub1 t x = ⟨rx x.r u, dx x.d e⟩ := by unfold sub1; rw [if_pos q2p, htr, htd]
          obtain ⟨fr, hfr⟩ : ∃ fr, fr = rx x.r u := ⟨_, rfl⟩
          obtain ⟨fd, hfd⟩ : ∃ fd, fd = dx x.d e := ⟨_, rfl⟩
          rw [← hfr, ← hfd] at hf
          have hfne : fr ≠ [] := by have := hS.ne; rw [hf] at this; exact this
          have hfp : pv ⟨fr, fd⟩ = pv x := by rw [← hf]; exact hpf
          have hfl : (fr.map eI).length = fr.length := List.length_map ..
          have hfl0 : 0 < fr.length := List.length_pos_iff.2 hfne
          have hfg : (fr.map eI).getD 0 [] = eI (pv x) := by rw [← hfp, ← pv_at (e := ⟨fr, fd⟩) hfne]; exact atI fr rfl hfl0
          conv => whnf
          refine VDraw.goR [0, 1, 0, 4, 15, 0, 32, 0, 128, 511, 1023, 2047] [4, 9, 11] [] [(11, [85])] rfl (by decide +kernel) ?_
          conv => whnf
          refine .mk _ _ false Tryz.call82 (l2Xor_ok x.r u (by omega) (by omega)) (Nat.le_of_ble_eq_true rfl) (.inl rfl) ?_
          conv => whnf
          refine .mk _ _ false Tryz.call83 (specXor_ok x.d e (by omega) (by omega)) (Nat.le_of_ble_eq_true rfl) (.inl rfl) ?_
          conv => whnf
          rw [← hfr, ← hfd]
          cases done with
          | true =>
            obtain ⟨hI1, hI2⟩ := hI
            refine VDraw.goR [0, 1, 3, 7, 15, 31, 63, 7, 135, 391, 903, 2047, 4095] [] [] [] rfl (by decide +kernel) ?_
            conv => whnf
            conv => whnf
            refine ⟨⟨by rw [hfl]; omega, trivial, trivial⟩, ?_⟩
            conv => whnf
            refine ⟨⟨rfl, (List.length_map ..).symm, rfl⟩, Nat.le_refl 1, ?_⟩
            conv => whnf
            refine ⟨(fun q => by cases q), appE (show (L.map eE).length + 1 ≤ _ by rw [List.length_map]; omega), fun el hel => by cases List.mem_singleton.1 hel; rfl, ?_⟩
            conv => whnf
            rw [hwi]
            refine ⟨.inr (i + 1, true, _, _), rfl, rfl, ⟨by omega, by omega, L ++ [sub1 t x], ?_, ?_, (by simp only [List.length_append, List.length_cons, List.length_nil]; omega), ?_⟩, (by show es.length - (i + 1) < es.length - i; omega)⟩
            · simp only [List.length_append, List.length_cons, List.length_nil, List.length_map]; rfl
            · rw [List.map_append]; exact app1 (show [[PV.sl (List.take fr.length (List.drop 0 (fr.map eI))), PV.lit (.string fd)]] = [sub1 t x].map eE from by rw [takeI, hf]; rfl)
            · rw [take_snoc hx, List.map_append]
              obtain ⟨f, hf1, hf2⟩ := hI1
              exact ⟨⟨f, List.mem_append_left _ hf1, hf2⟩, by rw [hI2]; exact (insE_lt [sub1 t x] ⟨f, hf1, hf2⟩).symm⟩
          | false =>
            obtain ⟨hI1, hI2⟩ := hI
            have hLi : L.length = i := by rw [hI2, List.length_map, List.length_take]; omega
            refine VDraw.goR [0, 1, 3, 7, 15, 31, 63, 7, 135, 391, 903, 2047, 4095] [] [] [] rfl (by decide +kernel) ?_
            conv => whnf
            refine ⟨by omega, by omega, by rw [hfl]; omega, ?_⟩
            conv => whnf
            refine ⟨_, hfg, ?_⟩
            conv => whnf
            refine ⟨by omega, by rw [hum]; omega, _, hg, ?_⟩
            conv => whnf
            split
            · rename_i q5
              have q5p := of_decide_eq_true q5
              conv => whnf
              refine ⟨⟨rfl, (List.length_map ..).symm, rfl⟩, Nat.le_refl 1, ?_⟩
              conv => whnf
              refine ⟨(fun q => by cases q), appE (show (L.map eE).length + 1 ≤ _ by rw [List.length_map]; omega), fun el hel => by cases List.mem_singleton.1 hel; rfl, ?_⟩
              conv => whnf
              refine ⟨⟨by rw [hfl]; omega, trivial, trivial⟩, ?_⟩
              conv => whnf
              refine ⟨⟨rfl, (by rw [List.length_append]), rfl⟩, Nat.le_refl 1, ?_⟩
              conv => whnf
              refine ⟨(fun q => by cases q), appE (show (L.map eE ++ [_]).length + 1 ≤ _ by rw [List.length_append, List.length_map]; show L.length + 1 + 1 ≤ _; omega), fun el hel => by cases List.mem_singleton.1 hel; rfl, ?_⟩
              conv => whnf
              rw [hwi]
              refine ⟨.inr (i + 1, true, _, _), rfl, rfl, ⟨by omega, by omega, L ++ [t] ++ [sub1 t x], ?_, ?_, (by simp only [List.length_append, List.length_cons, List.length_nil]; omega), ?_⟩, (by show es.length - (i + 1) < es.length - i; omega)⟩
              · simp only [List.length_append, List.length_cons, List.length_nil, List.length_map]; rfl
              · rw [List.map_append, List.map_append]; exact app2 (show [[PV.sl (u.map eI), PV.lit (.string e)]] = [t].map eE from by rw [List.map_cons, htm]; rfl) (show [[PV.sl (List.take fr.length (List.drop 0 (fr.map eI))), PV.lit (.string fd)]] = [sub1 t x].map eE from by rw [takeI, hf]; rfl)
              · rw [take_snoc hx, List.map_append]
                refine ⟨⟨sub1 t x, List.mem_append_right _ (List.mem_singleton.2 rfl), by rw [hpf]; exact q5p⟩, ?_⟩
                rw [hI2, List.map_cons, List.map_nil, insE_gt _ hI1, insE_one (by rw [hpf]; exact q5p), List.append_assoc]; rfl
            · rename_i q5
              have q5p := of_decide_eq_false q5
              conv => whnf
              refine ⟨⟨by rw [hfl]; omega, trivial, trivial⟩, ?_⟩
              conv => whnf
              refine ⟨⟨rfl, (List.length_map ..).symm, rfl⟩, Nat.le_refl 1, ?_⟩
              conv => whnf
              refine ⟨(fun q => by cases q), appE (show (L.map eE).length + 1 ≤ _ by rw [List.length_map]; omega), fun el hel => by cases List.mem_singleton.1 hel; rfl, ?_⟩
              conv => whnf
              rw [hwi]
              refine ⟨.inr (i + 1, false, _, _), rfl, rfl, ⟨by omega, by omega, L ++ [sub1 t x], ?_, ?_, (by simp only [List.length_append, List.length_cons, List.length_nil]; omega), ?_⟩, (by show es.length - (i + 1) < es.length - i; omega)⟩
              · simp only [List.length_append, List.length_cons, List.length_nil, List.length_map]; rfl
              · rw [List.map_append]; exact app1 (show [[PV.sl (List.take fr.length (List.drop 0 (fr.map eI))), PV.lit (.string fd)]] = [sub1 t x].map eE from by rw [takeI, hf]; rfl)
              · rw [take_snoc hx, List.map_append]
                refine ⟨fun f hf1 => ?_, by rw [hI2]; rfl⟩
                rcases List.mem_append.1 hf1 with hf1 | hf1
                · exact hI1 f hf1
                · rw [List.mem_singleton.1 hf1, hpf]; exact q5p
        · rename_i q2
          have q2p := of_decide_eq_false q2
          have hf : sub1 t x = x := by unfold sub1; rw [if_neg q2p]
          conv => whnf
          cases done with
          | true =>
            obtain ⟨hI1, hI2⟩ := hI
            refine VDraw.goR [0, 1, 3, 7, 15, 31, 63, 7, 135, 391, 903, 2047, 4095] [] [] [] rfl (by decide +kernel) ?_
            conv => whnf
            conv => whnf
            refine ⟨⟨rfl, (List.length_map ..).symm, rfl⟩, Nat.le_refl 1, ?_⟩
            conv => whnf
            refine ⟨(fun q => by cases q), appE (show (L.map eE).length + 1 ≤ _ by rw [List.length_map]; omega), fun el hel => by cases List.mem_singleton.1 hel; rfl, ?_⟩
            conv => whnf
            rw [hwi]
            refine ⟨.inr (i + 1, true, _, _), rfl, rfl, ⟨by omega, by omega, L ++ [sub1 t x], ?_, ?_, (by simp only [List.length_append, List.length_cons, List.length_nil]; omega), ?_⟩, (by show es.length - (i + 1) < es.length - i; omega)⟩
            · simp only [List.length_append, List.length_cons, List.length_nil, List.length_map]; rfl
            · rw [List.map_append]; exact app1 (show [[PV.sl (x.r.map eI), PV.lit (.string x.d)]] = [sub1 t x].map eE from by rw [hf]; rfl)
            · rw [take_snoc hx, List.map_append]
              obtain ⟨f, hf1, hf2⟩ := hI1
              exact ⟨⟨f, List.mem_append_left _ hf1, hf2⟩, by rw [hI2]; exact (insE_lt [sub1 t x] ⟨f, hf1, hf2⟩).symm⟩
          | false =>
            obtain ⟨hI1, hI2⟩ := hI
            have hLi : L.length = i := by rw [hI2, List.length_map, List.length_take]; omega
            refine VDraw.goR [0, 1, 3, 7, 15, 31, 63, 7, 135, 391, 903, 2047, 4095] [] [] [] rfl (by decide +kernel) ?_
            conv => whnf
            refine ⟨by omega, by rw [hxl]; omega, _, hxg, ?_⟩
            conv => whnf
            refine ⟨by omega, by rw [hum]; omega, _, hg, ?_⟩
            conv => whnf
            split
            · rename_i q5
              have q5p := of_decide_eq_true q5
              conv => whnf
              refine ⟨⟨rfl, (List.length_map ..).symm, rfl⟩, Nat.le_refl 1, ?_⟩
              conv => whnf
              refine ⟨(fun q => by cases q), appE (show (L.map eE).length + 1 ≤ _ by rw [List.length_map]; omega), fun el hel => by cases List.mem_singleton.1 hel; rfl, ?_⟩
              conv => whnf
              refine ⟨⟨rfl, (by rw [List.length_append]), rfl⟩, Nat.le_refl 1, ?_⟩
              conv => whnf
              refine ⟨(fun q => by cases q), appE (show (L.map eE ++ [_]).length + 1 ≤ _ by rw [List.length_append, List.length_map]; show L.length + 1 + 1 ≤ _; omega), fun el hel => by cases List.mem_singleton.1 hel; rfl, ?_⟩
              conv => whnf
              rw [hwi]
              refine ⟨.inr (i + 1, true, _, _), rfl, rfl, ⟨by omega, by omega, L ++ [t] ++ [sub1 t x], ?_, ?_, (by simp only [List.length_append, List.length_cons, List.length_nil]; omega), ?_⟩, (by show es.length - (i + 1) < es.length - i; omega)⟩
              · simp only [List.length_append, List.length_cons, List.length_nil, List.length_map]; rfl
              · rw [List.map_append, List.map_append]; exact app2 (show [[PV.sl (u.map eI), PV.lit (.string e)]] = [t].map eE from by rw [List.map_cons, htm]; rfl) (show [[PV.sl (x.r.map eI), PV.lit (.string x.d)]] = [sub1 t x].map eE from by rw [hf]; rfl)
              · rw [take_snoc hx, List.map_append]
                refine ⟨⟨sub1 t x, List.mem_append_right _ (List.mem_singleton.2 rfl), by rw [hpf]; exact q5p⟩, ?_⟩
                rw [hI2, List.map_cons, List.map_nil, insE_gt _ hI1, insE_one (by rw [hpf]; exact q5p), List.append_assoc]; rfl
            · rename_i q5
              have q5p := of_decide_eq_false q5
              conv => whnf
              refine ⟨⟨rfl, (List.length_map ..).symm, rfl⟩, Nat.le_refl 1, ?_⟩
              conv => whnf
              refine ⟨(fun q => by cases q), appE (show (L.map eE).length + 1 ≤ _ by rw [List.length_map]; omega), fun el hel => by cases List.mem_singleton.1 hel; rfl, ?_⟩
              conv => whnf
              rw [hwi]
              refine ⟨.inr (i + 1, false, _, _), rfl, rfl, ⟨by omega, by omega, L ++ [sub1 t x], ?_, ?_, (by simp only [List.length_append, List.length_cons, List.length_nil]; omega), ?_⟩, (by show es.length - (i + 1) < es.length - i; omega)⟩
              · simp only [List.length_append, List.length_cons, List.length_nil, List.length_map]; rfl
              · rw [List.map_append]; exact app1 (show [[PV.sl (x.r.map eI), PV.lit (.string x.d)]] = [sub1 t x].map eE from by rw [hf]; rfl)
              · rw [take_snoc hx, List.map_append]
                refine ⟨fun f hf1 => ?_, by rw [hI2]; rfl⟩
                rcases List.mem_append.1 hf1 with hf1 | hf1
                · exact hI1 f hf1
                · rw [List.mem_singleton.1 hf1, hpf]; exact q5p
      · rename_i q1
        have q1p := of_decide_eq_false q1
        have ei : i = es.length := by omega
        subst ei
        rw [List.take_length] at hI
        cases done with
        | true =>
          obtain ⟨hI1, hI2⟩ := hI
          rw [show addE es t = L from hI2.symm]
          conv => whnf
          refine ⟨⟨⟨by decide +kernel, Nat.le_of_ble_eq_true rfl⟩, trivial⟩, ?_⟩
          conv => whnf
          exact ⟨rfl, rfl⟩
        | false =>
          obtain ⟨hI1, hI2⟩ := hI
          have hAd : addE es t = L ++ [t] := by
            have := insE_gt (t := t) [] hI1
            rw [List.append_nil] at this
            rw [hI2]; exact this
          rw [hAd]
          conv => whnf
          refine ⟨⟨rfl, (List.length_map ..).symm, rfl⟩, Nat.le_refl 1, ?_⟩
          conv => whnf
          refine ⟨(fun q => by cases q), appE (show (L.map eE).length + 1 ≤ _ by rw [List.length_map]; omega), fun el hel => by cases List.mem_singleton.1 hel; rfl, ?_⟩
          conv => whnf
          refine ⟨⟨⟨by decide +kernel, Nat.le_of_ble_eq_true rfl⟩, trivial⟩, ?_⟩
          conv => whnf
          refine ⟨?_, ?_⟩
          · rw [List.length_append, ← List.length_map (f := eE)]; rfl
          · rw [List.map_append]; exact congrArg (fun E => [Blk.arr 2 (L.map eE ++ E)]) (show [[PV.sl (u.map eI), PV.lit (.string e)]] = [eE t] by rw [htm])
theorem l3Add_ok (c z : Int) (es : List Eqn) (hB : SBd c z es) (h : SOk c z es) (r : List Int) (d : ByteArray) (hr : RowP c r) (hd : d.size = z.toNat) (q : List Int × ByteArray) (hq : q = red es (r, d)) (A : List Eqn × Int) (hA : A = addR es q z.toNat) :
    Good Tryz.prog 34 [solF c z es, .one (.p (slI r)), vstr d] [] (.tup [solF c z A.1, vint A.2]) [] := by
  obtain ⟨v, out, hL, hg⟩ := l3Add_own c z es hB h r d hr hd q hq A hA
  cases hL with
  | old => exact hg
  | new => exact good_frz hg (.tup (.cons (.agg (.cons .p (.cons .p (.cons (.sl rfl (List.length_map ..).symm (Nat.zero_le _)) .nil)))) (.cons (.one .p) .nil))) rfl (fun _ h => by cases h)
end Go.Abs.F

set_option linter.unusedSimpArgs false
set_option linter.unusedVariables false
namespace Go.Abs.F
open Go Go.Abs Go.Proofs Go.RowKit Go.Lib
structure Keep0 (p : Prop) : Prop where
  mk ::
  out : p
/-- copy, where elements have any number of cells. -/
theorem run_copy_k {P : Program} (w : World) (dT sT ty elem : TypeId) (k b o dLen dCap : Nat) (a : Addr) (sLen sCap : Nat) (cs : List Value)
    (hu : P.underlying dT = some (.slice elem)) (hs : (P.info? elem).map (·.size) = some k) (hn : cs.length = Nat.min sLen dLen * k)
    (hsrc : ∀ j v, cs[j]? = some v → w.cell? (a.add j) = some v) (hc : ∀ j, j < cs.length → (w.cell? ⟨b, o + j, none⟩).isSome = true) (hf : ∀ j, j < cs.length → w.frozen? ⟨b, o + j, none⟩ = false) (h1 : ∀ v ∈ cs, v.oneCell' = true) :
    (Builtin.copy_ #[dT, sT] ty #[.slice (some ⟨b, o, none⟩) dLen dCap, .slice (some a) sLen sCap]).run P w = .ok (goInt (Nat.min sLen dLen)) (w.setCells b o cs) := by
  have hl := run_loadCells_list (P := P) w a cs hsrc
  have hst := run_storeCells_cells (P := P) b o cs 0 w (by simpa using hc) (by simpa using hf) h1
  cases hq : P.info? elem with
  | none => simp [hq] at hs
  | some i =>
    have hi : i.size = k := by simpa [hq] using hs
    simp [Builtin.copy_, run_underlying hu, Builtin.lenOf, Builtin.firstCells, sizeOf, typeInfo, hq, hi, ← hn, hl, hst]
set_option maxHeartbeats 4000000 in
set_option maxRecDepth 1000000 in
theorem ins_end_room (g n c vb vc : Nat) (vs : List Value) (w : World) (hn : n ≤ 1000000) (hroom : n + 1 ≤ c) (hvl : vs.length = 2)
    (hsp : ∀ j, j < 2 → (w.cell? ⟨g, n * 2 + j, none⟩).isSome = true) (hfz : ∀ j, j < 2 → w.frozen? ⟨g, n * 2 + j, none⟩ = false)
    (hvs : ∀ j v, vs[j]? = some v → w.cell? ⟨vb, j, none⟩ = some v) (h1v : ∀ v ∈ vs, v.oneCell' = true) :
    Calls Tryz.prog 73 #[.slice (some ⟨g, 0, none⟩) n c, .int .i64 n, .slice (some ⟨vb, 0, none⟩) 1 vc] w fun e w' =>
      e = .returned (.slice (some ⟨g, 0, none⟩) (n + 1) c) ∧ w' = w.setCells g (n * 2) vs := by
  have hu := Tryz.underlying26
  have mixed : Tryz.prog.follows .mixedOrders = true := by kernel_rfl
  have hi36 : (Tryz.prog.info? 96).map (·.size) = some 2 := by kernel_rfl
  obtain ⟨inf, hinf, hsz⟩ := Option.map_eq_some_iff.1 hi36
  have hrun : ∀ ty, (Builtin.append_ #[26, 26] ty #[.slice (some ⟨g, 0, none⟩) n c, .slice (some ⟨vb, 0, none⟩) 1 vc]).run Tryz.prog w = .ok (.slice (some ⟨g, 0, none⟩) (n + 1) c) (w.setCells g (n * 2) vs) := fun ty => by
    have h := run_append_room_cells (P := Tryz.prog) w 26 ty 96 inf hu hinf g 0 n c ⟨vb, 0, none⟩ 1 vc vs (by rw [hvl, hsz]) (fun j u hj => by rw [Addr.add_lit, Nat.zero_add]; exact hvs j u hj) h1v hroom
      (fun j hj => by rw [hsz, Nat.zero_add]; exact hsp j (by omega)) (fun j hj => by rw [hsz, Nat.zero_add]; exact hfz j (by omega))
    rw [hsz, Nat.zero_add] at h
    exact h
  have hz1 : ¬ ((1 : Int) = 0) := by omega
  have HR := Keep0.mk hrun
  have hin : n ≤ c := by omega
  clear hi36 hinf hsz hsp hfz hrun hvs h1v
  go_enter Tryz.func73, Tryz.ntmps73
  go_wp2_with (at_builtin; refine Lib.wpList_append_run _ rfl _ _ _ _ rfl _ _ rfl rfl _ _ (HR.out _) ?_)
  go_ret
  exact ⟨rfl, rfl⟩
theorem eqZ : ∀ v ∈ ([.slice none 0 0, .string ⟨#[]⟩] : List Value), v.oneCell' = true := by intro v hv; simp at hv; rcases hv with rfl | rfl <;> rfl
def zEq : Value := .agg #[.slice none 0 0, .string ⟨#[]⟩]
set_option maxHeartbeats 4000000 in
set_option maxRecDepth 1000000 in
theorem ins_end_grow (base : Option Addr) (n c vb vc : Nat) (cs vs : List Value) (w : World) (hnn : n ≤ 1000000) (hnc : n ≤ c) (hroom : c < n + 1)
    (hcl : cs.length = n * 2) (hvl : vs.length = 2) (hnil : base = none → n = 0)
    (hcs : ∀ a, base = some a → ∀ j v, cs[j]? = some v → w.cell? (a.add j) = some v)
    (hvs : ∀ j v, vs[j]? = some v → w.cell? ⟨vb, j, none⟩ = some v) (h1v : ∀ v ∈ vs, v.oneCell' = true) :
    Calls Tryz.prog 73 #[.slice base n c, .int .i64 n, .slice (some ⟨vb, 0, none⟩) 1 vc] w fun e w' =>
      e = .returned (.slice (some ⟨w.heap.size, 0, none⟩) (n + 1) (grownCap w (n + 1) c 96)) ∧
      w' = w.drew.alloc (.cells ((cs ++ vs).toArray ++ Builtin.zeroCells zEq.cells (grownCap w (n + 1) c 96 - (n + 1))) 96) := by
  have hu := Tryz.underlying26
  have mixed : Tryz.prog.follows .mixedOrders = true := by kernel_rfl
  have hi36 : (Tryz.prog.info? 96).map (fun i => (i.size, i.zero, decide (i.bytes ≤ 64))) = some (2, some zEq, true) := by kernel_rfl
  obtain ⟨inf, hinf, hsz⟩ := Option.map_eq_some_iff.1 hi36
  simp only [Prod.mk.injEq, decide_eq_true_eq] at hsz
  obtain ⟨hs2, hz0, hby⟩ := hsz
  have hz1 : ¬ ((1 : Int) = 0) := by omega
  have hsrc : Src Tryz.prog inf.size 26 (.slice (some ⟨vb, 0, none⟩) 1 vc) 1 vs w := by
    rw [hs2]
    exact Src.ofSlice w hu ⟨vb, 0, none⟩ 1 vc vs (by omega) (fun j u hj => by rw [Addr.add_lit, Nat.zero_add]; exact hvs j u hj) h1v
  have hold : (Builtin.firstCells inf.size n (.slice base n c)).run Tryz.prog w.drew = .ok cs.toArray w.drew := by
    rw [hs2]
    cases base with
    | none =>
      have h0 := hnil rfl
      subst h0
      rw [List.length_eq_zero_iff.1 (hcl.trans (Nat.zero_mul 2))]
      exact run_firstCells_none w.drew 2 0 0 c
    | some a => exact run_firstCells_some w.drew 2 n a n c cs (by omega) (fun j v hj => hcs a rfl j v hj)
  have hbig : (n + 1) * inf.bytes ≤ 140737488355328 := Nat.le_trans (Nat.mul_le_mul (show n + 1 ≤ 1000001 by omega) hby) (by decide)
  have hrun : ∀ ty, (Builtin.append_ #[26, 26] ty #[.slice base n c, .slice (some ⟨vb, 0, none⟩) 1 vc]).run Tryz.prog w = _ := fun ty =>
    run_append_grow_src w 26 26 ty 96 inf zEq hu hinf hz0 base n c cs hold _ 1 vs hsrc hroom (by omega) (growslice_fits hroom hbig)
  obtain ⟨Z, hZ⟩ : ∃ Z, Z = zEq.cells := ⟨_, rfl⟩
  rw [← hZ] at hrun ⊢
  have HR := Keep0.mk hrun
  clear hi36 hinf hold hcs hvs h1v hsrc hrun hbig
  go_enter Tryz.func73, Tryz.ntmps73
  cases base with
  | none =>
    have h0 := hnil rfl
    subst h0
    go_wp2_with (at_builtin; refine Lib.wpList_append_run _ rfl _ _ _ _ rfl _ _ rfl rfl _ _ (HR.out _) ?_)
    all_goals (go_ret; refine ⟨rfl, ?_⟩; first | exact rfl | (rename_i cs0 hq; have hq2 : Value.agg #[.slice none 0 0, .string ⟨#[]⟩] = Value.agg cs0 := hq; injection hq2 with hq2; subst hq2; rw [hZ]; rfl) | (rename_i hq; exact (hq _ rfl).elim))
  | some a =>
    obtain ⟨ab, ao, asp⟩ := a
    go_wp2_with (at_builtin; refine Lib.wpList_append_run _ rfl _ _ _ _ rfl _ _ rfl rfl _ _ (HR.out _) ?_)
    all_goals (go_ret; refine ⟨rfl, ?_⟩; first | exact rfl | (rename_i cs0 hq; have hq2 : Value.agg #[.slice none 0 0, .string ⟨#[]⟩] = Value.agg cs0 := hq; injection hq2 with hq2; subst hq2; rw [hZ]; rfl) | (rename_i hq; exact (hq _ rfl).elim))
set_option maxHeartbeats 4000000 in
set_option maxRecDepth 100000 in
theorem ins_shift (g n c i vb vc : Nat) (cs vs : List Value) (w : World) (hnn : n ≤ 1000000) (hi : i < n) (hroom : n + 1 ≤ c) (hvb : vb ≠ g)
    (hcl : cs.length = n * 2) (hvl : vs.length = 2)
    (hcs : ∀ j v, cs[j]? = some v → w.cell? ⟨g, j, none⟩ = some v) (hsp : ∀ j, j < (n + 1) * 2 → (w.cell? ⟨g, j, none⟩).isSome = true) (hfz : ∀ j, j < (n + 1) * 2 → w.frozen? ⟨g, j, none⟩ = false)
    (hvs : ∀ j v, vs[j]? = some v → w.cell? ⟨vb, j, none⟩ = some v) (h1c : ∀ v ∈ cs, v.oneCell' = true) (h1v : ∀ v ∈ vs, v.oneCell' = true)
    (tA tB : TypeId) (kA kB : Nat) (hsa : w.shape? vb = some (tA, kA)) (hsb : w.shape? g = some (tB, kB)) (hkB : kB ≠ 0) (hfa : w.frozen? ⟨vb, 0, none⟩ = false) (hfe : w.frozen? ⟨vb, kA, none⟩ = false) :
    Calls Tryz.prog 73 #[.slice (some ⟨g, 0, none⟩) n c, .int .i64 i, .slice (some ⟨vb, 0, none⟩) 1 vc] w fun e w' =>
      e = .returned (.slice (some ⟨g, 0, none⟩) (n + 1) c) ∧ w' = (w.drew.setCells g ((i + 1) * 2) (cs.drop (i * 2))).setCells g (i * 2) vs := by
  have hu := Tryz.underlying26
  have mixed : Tryz.prog.follows .mixedOrders = true := by kernel_rfl
  have hsz : (Tryz.prog.info? 96).map (·.size) = some 2 := by kernel_rfl
  have hz9 : ∀ w, (Go.sizeOf 96).run Tryz.prog w = .ok 2 w := fun w => by kernel_rfl
  have hz1 : ¬ ((1 : Int) = 0) := by omega
  have hz2 : ¬ ((i : Int) = (n : Int)) := by omega
  have hov : ∀ lb cb, (callFunc 105 #[.slice (some ⟨vb, 0, none⟩) 1 vc, .slice (some ⟨g, (i + 1) * 2, none⟩) lb cb]).run Tryz.prog w = .ok (.value (.bool false)) w := fun lb cb => by
    rw [run_callFunc_extern Tryz.func105 (by kernel_rfl) (by kernel_rfl) (by kernel_rfl) (e := Extern.SlicesOverlaps.overlaps #[26, 26] #[4]) (by kernel_rfl),
      Lib.run_overlaps_apart w 26 4 96 hu 2 hz9 ⟨vb, 0, none⟩ ⟨g, (i + 1) * 2, none⟩ 1 vc lb cb hvb tA tB kA kB hsa hsb hkB hfa hfe]
    rfl
  have hdl : (cs.drop (i * 2)).length = (n - i) * 2 := by rw [List.length_drop, hcl]; omega
  have hw1 : IntKind.i64.wrap ((i : Int) + 1) = (i : Int) + 1 := by rw [IntKind.wrap_i64]; omega
  have hb1 : (0 : Int) ≤ (i : Int) + 1 := by omega
  have hin : i ≤ n := by omega
  have htn : ((i : Int) + 1).toNat = i + 1 := by omega
  have hb2 : ¬ (c = i + 1) := by omega
  have hb3 : (i : Int) ≤ (n : Int) + 1 := by omega
  have hb4 : ¬ (c = i) := by omega
  have hm1 : Nat.min (n + 1 - i) (n - i) = n - i := by simp only [Nat.min_def]; split <;> omega
  have hm2 : Nat.min 1 (n + 1 - i) = 1 := by simp only [Nat.min_def]; split <;> omega
  have hcp1 : ∀ ty dc sc, (Builtin.copy_ #[26, 26] ty #[.slice (some ⟨g, (i + 1) * 2, none⟩) (n - i) dc, .slice (some ⟨g, i * 2, none⟩) (n + 1 - i) sc]).run Tryz.prog w.drew = .ok (goInt ((n - i : Nat) : Int)) (w.drew.setCells g ((i + 1) * 2) (cs.drop (i * 2))) := fun ty dc sc => by
    have h := run_copy_k (P := Tryz.prog) w.drew 26 26 ty 96 2 g ((i + 1) * 2) (n - i) dc ⟨g, i * 2, none⟩ (n + 1 - i) sc (cs.drop (i * 2)) hu hsz (by rw [hdl, hm1])
      (fun j v hj => by rw [Addr.add_lit]; exact hcs (i * 2 + j) v (by rwa [List.getElem?_drop] at hj))
      (fun j hj => hsp _ (by omega)) (fun j hj => hfz _ (by omega)) (fun v hv => h1c v (List.mem_of_mem_drop hv))
    rw [hm1] at h
    exact h
  obtain ⟨W1, hW1⟩ : ∃ W1, W1 = w.drew.setCells g ((i + 1) * 2) (cs.drop (i * 2)) := ⟨_, rfl⟩
  have hsp1 : ∀ k, k < (n + 1) * 2 → (W1.cell? ⟨g, k, none⟩).isSome = true := fun k hk => by
    rw [hW1]
    exact isSome_setCells g (cs.drop (i * 2)) ((i + 1) * 2) w.drew (fun j hj => hsp _ (by rw [hdl] at hj; omega)) k (hsp k hk)
  have hcp2 : ∀ (W : World), (∀ x, W.cell? x = W1.cell? x) → (∀ x, W.frozen? x = W1.frozen? x) → ∀ ty dc, (Builtin.copy_ #[26, 26] ty #[.slice (some ⟨g, i * 2, none⟩) (n + 1 - i) dc, .slice (some ⟨vb, 0, none⟩) 1 vc]).run Tryz.prog W = .ok (goInt ((1 : Nat) : Int)) (W.setCells g (i * 2) vs) := fun W hWc hWf ty dc => by
    have h := run_copy_k (P := Tryz.prog) W 26 26 ty 96 2 g (i * 2) (n + 1 - i) dc ⟨vb, 0, none⟩ 1 vc vs hu hsz (by rw [hvl, hm2])
      (fun j v hj => by
        rw [Addr.add_lit, hWc, hW1, World.cell?_setCells_out g _ _ _ _ (fun h _ => absurd h hvb), Nat.zero_add]
        exact hvs j v hj)
      (fun j hj => by rw [hWc]; exact hsp1 _ (by omega)) (fun j hj => by rw [hWf, hW1, World.frozen?_setCells]; exact hfz _ (by omega)) h1v
    rw [hm2] at h
    exact h
  rw [← hW1] at hcp1
  clear hcs hsp hvs hsp1 hdl hm1 hm2 hcl hvl
  go_enter Tryz.func73, Tryz.ntmps73
  go_wp2_with (simp only [hov])
  go_region_law_o (refine step_copy_runI rfl _ _ 26 26 rfl _ _ (by simp [Act.eval, Act.put]) (by simp [Act.eval, Act.put]) (hcp1 _ _ _) ?_)
  go_wp2_with (at_builtin; refine wpList_copy_runI _ rfl _ _ 26 26 rfl _ _ rfl rfl (hcp2 _ (fun _ => rfl) (fun _ => rfl) _ _) ?_)
  go_ret
  first | exact ⟨rfl, rfl⟩ | exact ⟨rfl, by rw [hW1]⟩
set_option maxHeartbeats 4000000 in
set_option maxRecDepth 100000 in
theorem ins_grow (g n c i vb vc : Nat) (cs vs : List Value) (w : World) (hnn : n ≤ 1000000) (hi : i < n) (hnc : n ≤ c) (hroom : c < n + 1)
    (hcl : cs.length = n * 2) (hvl : vs.length = 2)
    (hcs : ∀ j v, cs[j]? = some v → w.cell? ⟨g, j, none⟩ = some v)
    (hvs : ∀ j v, vs[j]? = some v → w.cell? ⟨vb, j, none⟩ = some v) (h1c : ∀ v ∈ cs, v.oneCell' = true) (h1v : ∀ v ∈ vs, v.oneCell' = true) :
    Calls Tryz.prog 73 #[.slice (some ⟨g, 0, none⟩) n c, .int .i64 i, .slice (some ⟨vb, 0, none⟩) 1 vc] w fun e w' =>
      e = .returned (.slice (some ⟨w.heap.size, 0, none⟩) (n + 1) (grownCap w (n + 1) c 96)) ∧
      w' = (((w.alloc (.cells ((cs.take (i * 2)).toArray ++ Builtin.zeroCells zEq.cells (n + 1 - i) ++ Builtin.zeroCells zEq.cells (grownCap w (n + 1) c 96 - (n + 1))) 96)).drew.setCells w.heap.size (i * 2) vs).drew).setCells w.heap.size ((i + 1) * 2) (cs.drop (i * 2)) := by
  have hu := Tryz.underlying26
  have hu3 := Tryz.underlying3
  have mixed : Tryz.prog.follows .mixedOrders = true := by kernel_rfl
  have hi36 : (Tryz.prog.info? 96).map (fun i => (i.size, i.zero, decide (i.bytes ≤ 64))) = some (2, some zEq, true) := by kernel_rfl
  obtain ⟨inf, hinf, hsz0⟩ := Option.map_eq_some_iff.1 hi36
  simp only [Prod.mk.injEq, decide_eq_true_eq] at hsz0
  obtain ⟨hs2, hz0, hby⟩ := hsz0
  have hsz : (Tryz.prog.info? 96).map (·.size) = some 2 := by rw [hinf]; simp [hs2]
  have hz1 : ¬ ((1 : Int) = 0) := by omega
  have hz2 : ¬ ((i : Int) = (n : Int)) := by omega
  have hz3 : (c : Int) < (n : Int) + 1 := by omega
  have hbw : g < w.heap.size := block_lt_of_cell (hcs 0 _ (List.getElem?_eq_getElem (by omega)))
  have hvw : vb < w.heap.size := block_lt_of_cell (hvs 0 _ (List.getElem?_eq_getElem (by omega)))
  have hkk : (n : Int) + 1 - (i : Int) = ((n + 1 - i : Nat) : Int) := by omega
  have hik : i + (n + 1 - i) = n + 1 := by omega
  have hbig : (n + 1) * inf.bytes ≤ 140737488355328 := Nat.le_trans (Nat.mul_le_mul (show n + 1 ≤ 1000001 by omega) hby) (by decide)
  have hbig2 : (n + 1 - i) * inf.bytes ≤ 281474976710656 := Nat.le_trans (Nat.mul_le_mul (show n + 1 - i ≤ 1000001 by omega) hby) (by decide)
  have hold : (Builtin.firstCells inf.size i (.slice (some ⟨g, 0, none⟩) i c)).run Tryz.prog w.drew = .ok (cs.take (i * 2)).toArray w.drew := by
    rw [hs2]
    exact run_firstCells_some w.drew 2 i ⟨g, 0, none⟩ i c (cs.take (i * 2)) (by rw [List.length_take]; omega) (fun j v hj => by
      rw [Addr.add_lit, Nat.zero_add]
      rw [List.getElem?_take] at hj
      split at hj
      · exact hcs j v hj
      · cases hj)
  obtain ⟨Z, hZ⟩ : ∃ Z, Z = zEq.cells := ⟨_, rfl⟩
  have hZs : Z.size = 2 := by rw [hZ]; rfl
  obtain ⟨G, hG⟩ : ∃ G, G = grownCap w (n + 1) c 96 := ⟨_, rfl⟩
  obtain ⟨ROW, hROW⟩ : ∃ ROW : Array Value, ROW = (cs.take (i * 2)).toArray ++ Builtin.zeroCells Z (n + 1 - i) ++ Builtin.zeroCells Z (G - (n + 1)) := ⟨_, rfl⟩
  have hrz : ∀ ty, (Builtin.append_ #[26, 3] ty #[.slice (some ⟨g, 0, none⟩) i c, .int .i64 ((n : Int) + 1 - (i : Int))]).run Tryz.prog w =
      .ok (.slice (some ⟨w.heap.size, 0, none⟩) (n + 1) (grownCap w (n + 1) c 96)) (w.drew.alloc (.cells ((cs.take (i * 2)).toArray ++ Builtin.zeroCells zEq.cells (n + 1 - i) ++ Builtin.zeroCells zEq.cells (grownCap w (n + 1) c 96 - (n + 1))) 96)) := fun ty => by
    have h := Lib.run_append_grow_zeros (P := Tryz.prog) w 26 3 ty 96 inf zEq .i64 .i64 hu hu3 hinf hz0 (some ⟨g, 0, none⟩) i c (cs.take (i * 2)) hold (n + 1 - i) (by omega) (by rw [hs2]; omega) (by omega) (by omega) hbig2 (by rw [hik]; exact growslice_fits hroom hbig)
    rw [hik] at h
    rw [hkk]
    exact h
  rw [← hZ, ← hG, ← hROW] at hrz ⊢
  have hRl : (n + 1) * 2 ≤ ROW.size := by
    rw [hROW]
    simp [Builtin.zeroCells, hZs]
    omega
  obtain ⟨W1, hW1⟩ : ∃ W1, W1 = w.drew.alloc (.cells ROW 96) := ⟨_, rfl⟩
  rw [← hW1] at hrz
  have hN : ∀ j, j < (n + 1) * 2 → (W1.cell? ⟨w.heap.size, j, none⟩).isSome = true := fun j hj => by
    rw [hW1, World.cell?_alloc_at (w := w.drew) ROW _ w.heap.size j rfl, Array.getElem?_eq_getElem (by omega)]; rfl
  have hNf : ∀ j, W1.frozen? ⟨w.heap.size, j, none⟩ = false := fun j => by rw [hW1]; exact World.frozen?_alloc_at (w := w.drew) ROW _ w.heap.size j rfl
  have hOb : ∀ j v, w.cell? ⟨g, j, none⟩ = some v → W1.cell? ⟨g, j, none⟩ = some v := fun j v h => by rw [hW1, World.cell?_alloc_past (w := w.drew) _ g j hbw]; exact h
  have hOv : ∀ j v, w.cell? ⟨vb, j, none⟩ = some v → W1.cell? ⟨vb, j, none⟩ = some v := fun j v h => by rw [hW1, World.cell?_alloc_past (w := w.drew) _ vb j hvw]; exact h
  have hm2 : Nat.min 1 (n + 1 - i) = 1 := by simp only [Nat.min_def]; split <;> omega
  have hm1 : Nat.min (n - i) (n - i) = n - i := by simp only [Nat.min_def]; split <;> omega
  have hcpA : ∀ (W : World), (∀ x, W.cell? x = W1.cell? x) → (∀ x, W.frozen? x = W1.frozen? x) → ∀ ty dc, (Builtin.copy_ #[26, 26] ty #[.slice (some ⟨w.heap.size, i * 2, none⟩) (n + 1 - i) dc, .slice (some ⟨vb, 0, none⟩) 1 vc]).run Tryz.prog W = .ok (goInt ((1 : Nat) : Int)) (W.setCells w.heap.size (i * 2) vs) := fun W hWc hWf ty dc => by
    have h := run_copy_k (P := Tryz.prog) W 26 26 ty 96 2 w.heap.size (i * 2) (n + 1 - i) dc ⟨vb, 0, none⟩ 1 vc vs hu hsz (by rw [hvl, hm2])
      (fun j v hj => by rw [Addr.add_lit, hWc, Nat.zero_add]; exact hOv _ v (hvs j v hj))
      (fun j hj => by rw [hWc]; exact hN _ (by omega)) (fun j hj => by rw [hWf]; exact hNf _) h1v
    rw [hm2] at h
    exact h
  have hGn : n + 1 ≤ G := by rw [hG]; exact grownCap_ge w _ _ _
  have hG63 : G ≤ 9223372036854775807 := by
    have := grownCap_le_maxLen w (n + 1) c 96 (by unfold maxLen; omega)
    rw [← hG] at this
    unfold maxLen at this
    omega
  have hGi : ¬ (G = i) := by omega
  have hGim : ¬ (G = i + 1) := by omega
  have hci : ¬ (c = i) := by omega
  have hbN : g ≠ w.heap.size := by omega
  have hdl : (cs.drop (i * 2)).length = (n - i) * 2 := by rw [List.length_drop, hcl]; omega
  have hcpB : ∀ (W : World), (∀ x, W.cell? x = (W1.setCells w.heap.size (i * 2) vs).cell? x) → (∀ x, W.frozen? x = (W1.setCells w.heap.size (i * 2) vs).frozen? x) → ∀ ty dc sc, (Builtin.copy_ #[26, 26] ty #[.slice (some ⟨w.heap.size, (i + 1) * 2, none⟩) (n - i) dc, .slice (some ⟨g, i * 2, none⟩) (n - i) sc]).run Tryz.prog W = .ok (goInt ((n - i : Nat) : Int)) (W.setCells w.heap.size ((i + 1) * 2) (cs.drop (i * 2))) := fun W hWc hWf ty dc sc => by
    have h := run_copy_k (P := Tryz.prog) W 26 26 ty 96 2 w.heap.size ((i + 1) * 2) (n - i) dc ⟨g, i * 2, none⟩ (n - i) sc (cs.drop (i * 2)) hu hsz (by rw [hdl, hm1])
      (fun j v hj => by
        rw [Addr.add_lit, hWc, World.cell?_setCells_out _ _ _ _ _ (fun h _ => absurd h hbN)]
        exact hOb _ v (hcs (i * 2 + j) v (by rwa [List.getElem?_drop] at hj)))
      (fun j hj => by rw [hWc]; exact isSome_setCells _ _ _ _ (fun t ht => hN _ (by rw [hvl] at ht; omega)) _ (hN _ (by rw [hdl] at hj; omega)))
      (fun j hj => by rw [hWf, World.frozen?_setCells]; exact hNf _) (fun v hv => h1c v (List.mem_of_mem_drop hv))
    rw [hm1] at h
    exact h
  subst hW1
  have hE1 : ∀ x, ((w.alloc (.cells ROW 96)).drew).cell? x = (w.drew.alloc (.cells ROW 96)).cell? x := fun x => rfl
  have hE2 : ∀ x, ((w.alloc (.cells ROW 96)).drew).frozen? x = (w.drew.alloc (.cells ROW 96)).frozen? x := fun x => rfl
  have hF1 : ∀ x, (((w.alloc (.cells ROW 96)).drew.setCells w.heap.size (i * 2) vs).drew).cell? x = ((w.drew.alloc (.cells ROW 96)).setCells w.heap.size (i * 2) vs).cell? x := fun x => rfl
  have hF2 : ∀ x, (((w.alloc (.cells ROW 96)).drew.setCells w.heap.size (i * 2) vs).drew).frozen? x = ((w.drew.alloc (.cells ROW 96)).setCells w.heap.size (i * 2) vs).frozen? x := fun x => rfl
  have hw1 : IntKind.i64.wrap ((i : Int) + 1) = (i : Int) + 1 := by rw [IntKind.wrap_i64]; omega
  have hb1 : (0 : Int) ≤ (i : Int) + 1 := by omega
  have hin : i ≤ n := by omega
  have htn : ((i : Int) + 1).toNat = i + 1 := by omega
  have hb3 : (i : Int) ≤ (n : Int) := by omega
  clear hkk hik hold hROW hG hRl hi36 hinf hcs hvs hN hNf hOb hOv hm1 hm2 hdl hcl hvl hZ hZs hz0
  go_enter Tryz.func73, Tryz.ntmps73
  go_wp2_with (first
    | (at_builtin; refine Lib.wpList_append_run _ rfl _ _ _ _ rfl _ _ rfl rfl _ _ (hrz _) ?_)
    | (at_builtin; refine wpList_copy_runI _ rfl _ _ 26 26 rfl _ _ rfl rfl (hcpA _ hE1 hE2 _ _) ?_)
    | (at_builtin; refine wpList_copy_runI _ rfl _ _ 26 26 rfl _ _ rfl rfl (hcpB _ (fun _ => rfl) (fun _ => rfl) _ _ _) ?_))
  go_region_law_o (refine step_copy_runI rfl _ _ 26 26 rfl (.slice (some ⟨w.heap.size, (i + 1) * 2, none⟩) (n - i) (G - (i + 1))) (.slice (some ⟨g, i * 2, none⟩) (n - i) (c - i)) (by simp [Act.eval, Act.put]) (by simp [Act.eval, Act.put]) (hcpB _ hF1 hF2 3 (G - (i + 1)) (c - i)) ?_)
  go_wp2
  go_ret
  exact ⟨rfl, rfl⟩
end Go.Abs.F

set_option linter.unusedSimpArgs false
set_option linter.unusedVariables false
namespace Go.Abs.F
open Go Go.Abs Go.Proofs Go.RowKit
attribute [local irreducible] IntKind.wrap
open Go.RowKit Go.Lib
theorem zc_size (k : Nat) : (Builtin.zeroCells zEq.cells k).size = k * 2 := by
  show ((Array.range (k * 2)).map _).size = _
  simp
theorem zc_one (k : Nat) : ∀ v ∈ Builtin.zeroCells zEq.cells k, v.oneCell' = true := by
  intro v hv
  have hv2 : v ∈ (Array.range (k * 2)).map fun i => (#[Value.slice none 0 0, Value.string ⟨#[]⟩] : Array Value)[i % 2]! := hv
  obtain ⟨i, _, rfl⟩ := Array.mem_map.1 hv2
  have h2 : i % 2 = 0 ∨ i % 2 = 1 := by omega
  rcases h2 with h2 | h2 <;> rw [h2] <;> rfl
/-- The cells of a row with one element more. -/
def insL (cs vs : List Value) (i : Nat) : List Value := cs.take (i * 2) ++ vs ++ cs.drop (i * 2)
theorem insL_get {cs vs : List Value} {n i : Nat} (hc : cs.length = n * 2) (hv : vs.length = 2) (hi : i ≤ n) (p : Nat) : (insL cs vs i)[p]? = if p < i * 2 then cs[p]? else if p < (i + 1) * 2 then vs[p - i * 2]? else cs[p - 2]? := by
  unfold insL
  have h1 : (cs.take (i * 2)).length = i * 2 := by rw [List.length_take]; omega
  rw [List.append_assoc]
  split
  · rename_i q
    rw [List.getElem?_append_left (by omega), List.getElem?_take, if_pos q]
  · rename_i q
    rw [List.getElem?_append_right (by omega), h1]
    split
    · rename_i q2
      rw [List.getElem?_append_left (by omega)]
    · rename_i q2
      rw [List.getElem?_append_right (by omega), hv, List.getElem?_drop]
      congr 1; omega
/-- Elements, one put among them. -/
def insAt (els : List (List PV)) (i : Nat) (el : List PV) : List (List PV) := els.take i ++ el :: els.drop i
theorem insAt_len {els : List (List PV)} {i : Nat} {el : List PV} (hi : i ≤ els.length) : (insAt els i el).length = els.length + 1 := by
  unfold insAt
  rw [List.length_append, List.length_take, List.length_cons, List.length_drop]; omega
theorem insAt_get {els : List (List PV)} {i : Nat} {el : List PV} (hi : i ≤ els.length) (m : Nat) : (insAt els i el)[m]? = if m < i then els[m]? else if m = i then some el else els[m - 1]? := by
  unfold insAt
  have h1 : (els.take i).length = i := by rw [List.length_take]; omega
  split
  · rename_i q
    rw [List.getElem?_append_left (by omega), List.getElem?_take, if_pos q]
  · rename_i q
    rw [List.getElem?_append_right (by omega), h1]
    split
    · rename_i q2; rw [q2, Nat.sub_self]; rfl
    · rename_i q2
      obtain ⟨d, hd⟩ : ∃ d, m - i = d + 1 := ⟨m - i - 1, by omega⟩
      rw [hd, List.getElem?_cons_succ, List.getElem?_drop]
      congr 1; omega
/-- What stands in the cells. -/
def Holds (w : World) (S : Kx → Prop) (els : List (List PV)) (L : Nat → Option Value) : Prop :=
  ∀ (m : Nat) (el : List PV), els[m]? = some el → el.length = 2 ∧ ∀ (j : Nat) (x : PV), el[j]? = some x → ∃ v, L (m * 2 + j) = some v ∧ RepP w S x v
theorem holds_ins {w : World} {S : Kx → Prop} {els : List (List PV)} {el : List PV} {cs vs : List Value} {n i : Nat} (hn : n = els.length) (hc : cs.length = n * 2) (hv : vs.length = 2) (hi : i ≤ n) (h1 : Holds w S els (cs[·]?)) (h2 : Holds w S [el] (vs[·]?)) :
    Holds w S (insAt els i el) ((insL cs vs i)[·]?) := by
  intro m e hm
  rw [insAt_get (by omega)] at hm
  split at hm
  · rename_i q
    obtain ⟨a1, a2⟩ := h1 m e hm
    refine ⟨a1, fun j x hj => ?_⟩
    have hj2 : j < 2 := by have := (List.getElem?_eq_some_iff.1 hj).1; omega
    obtain ⟨v, b1, b2⟩ := a2 j x hj
    refine ⟨v, ?_, b2⟩
    show (insL cs vs i)[m * 2 + j]? = _
    rw [insL_get hc hv hi, if_pos (by omega)]; exact b1
  · rename_i q
    split at hm
    · rename_i q2
      obtain ⟨a1, a2⟩ := h2 0 e hm
      refine ⟨a1, fun j x hj => ?_⟩
      have hj2 : j < 2 := by have := (List.getElem?_eq_some_iff.1 hj).1; omega
      obtain ⟨v, b1, b2⟩ := a2 j x hj
      refine ⟨v, ?_, b2⟩
      show (insL cs vs i)[m * 2 + j]? = _
      rw [insL_get hc hv hi, if_neg (by omega), if_pos (by omega), show m * 2 + j - i * 2 = 0 * 2 + j by omega]; exact b1
    · rename_i q2
      obtain ⟨a1, a2⟩ := h1 (m - 1) e hm
      refine ⟨a1, fun j x hj => ?_⟩
      have hj2 : j < 2 := by have := (List.getElem?_eq_some_iff.1 hj).1; omega
      obtain ⟨v, b1, b2⟩ := a2 j x hj
      refine ⟨v, ?_, b2⟩
      show (insL cs vs i)[m * 2 + j]? = _
      rw [insL_get hc hv hi, if_neg (by omega), if_neg (by omega), show m * 2 + j - 2 = (m - 1) * 2 + j by omega]; exact b1
end Go.Abs.F

set_option linter.unusedSimpArgs false
set_option linter.unusedVariables false
namespace Go.Abs.F
open Go Go.Abs Go.Proofs Go.RowKit
attribute [local irreducible] IntKind.wrap
open Go.RowKit Go.Lib
theorem holds_mono {w w' : World} {S : Kx → Prop} {els : List (List PV)} {L L' : Nat → Option Value} {N : Nat} (h : Holds w S els L) (hN : els.length ≤ N) (hL : ∀ p, p < N * 2 → L' p = L p) (hw : ∀ k, S k → w'.heap[k.b]? = w.heap[k.b]?) : Holds w' S els L' := by
  intro m e hm
  obtain ⟨a1, a2⟩ := h m e hm
  refine ⟨a1, fun j x hj => ?_⟩
  have hj2 : j < 2 := by have := (List.getElem?_eq_some_iff.1 hj).1; omega
  have hm2 := (List.getElem?_eq_some_iff.1 hm).1
  obtain ⟨v, b1, b2⟩ := a2 j x hj
  exact ⟨v, (hL _ (by omega)).trans b1, b2.mono hw fun _ q => q⟩
theorem heap_push_last (w : World) (o : Obj) : (w.drew.alloc o).heap[w.heap.size]? = some o := by
  show (w.heap.push o)[w.heap.size]? = some o
  simp
theorem heap_push_old (w : World) (o : Obj) (k : Nat) (hk : k < w.heap.size) : (w.drew.alloc o).heap[k]? = w.heap[k]? := Below.heap_alloc w.drew o k hk
theorem heap_push_size (w : World) (o : Obj) : (w.drew.alloc o).heap.size = w.heap.size + 1 := by
  show (w.heap.push o).size = _
  simp
/-- The row was changed where it lies. -/
theorem post_in {w w' : World} {σ : Nat → Loc} {S : Kx → Prop} {new : List (List PV)} {el : List PV} {n cap : Nat} {cur cur' : Array Value} {ty : TypeId} {fr : Nat × Nat}
    (g1 : w.heap[(σ 0).k]? = some (.cells cur ty fr)) (g0 : ∀ o, (o < cur.size ∨ (o = cur.size ∧ (σ 0).sz ≠ 1)) → (fr.1 ≤ o && o < fr.2) = false) (g2 : cur.size = (σ 0).cap * (σ 0).sz) (g6 : (σ 0).sz = 2)
    (h1 : BlkRep w S σ 1 (.arr 2 [el])) (hap : (σ 0).k ≠ (σ 1).k) (hS0 : ∀ x, S x → x.b ≠ (σ 0).k) (hS1 : ∀ x, S x → x.b ≠ (σ 1).k) (hS : ∀ k, S k → k.b < w.heap.size) {own : Bool} (hok : Go.Abs.SOk S) (hfr : own = false → Free S) (hcap : cap ≤ (σ 0).cap) (hn : n + 1 ≤ cap) (hnew : new.length = n + 1)
    (b1 : w'.heap[(σ 0).k]? = some (.cells cur' ty fr)) (b2 : cur'.size = cur.size) (b3 : ∀ v ∈ cur', v.oneCell' = true) (hh : Holds w' S new (cur'[·]?))
    (hoth : ∀ k, k ≠ (σ 0).k → w'.heap[k]? = w.heap[k]?) (hsz : w'.heap.size = w.heap.size) (e1 : w'.os = w.os) (e2 : w'.tape = w.tape) (e3 : w'.output = w.output) :
    ∃ v, Ending.returned (.slice (some ⟨(σ 0).k, 0, none⟩) (n + 1) cap) = .returned v ∧ ∃ (j : Nat) (out : List Blk), out[j]? = some (.arr 2 new) ∧ out.length ≤ 2 + 1 ∧ (j = 2 ∨ out.length = 2) ∧ PostO own w 2 σ S (.one (.hs j 0 (n + 1))) out v w' := by
  have hsame : ∀ k, S k → w'.heap[k.b]? = w.heap[k.b]? := fun k hk => hoth k.b (hS0 k hk)
  refine ⟨_, rfl, 0, [.arr 2 new, .arr 2 [el]], rfl, Nat.le_of_ble_eq_true rfl, .inr rfl, σ, S, .one ?_, .one (by show 0 < 2; decide), Nat.le_of_ble_eq_true rfl, ?_, fun b b' q1 q2 q3 => ?_, fun b q => rfl, fun b q1 q2 => absurd q2 (by simp only [List.length_cons, List.length_nil]; omega), fun k hk => hsz ▸ hS k hk, fun k hk _ => hk, e1, e2, e3, Nat.le_of_eq hsz.symm, fun k hk hne => hoth k fun q => hne 0 (by decide) q.symm, hok, hfr⟩
  · have := RepC.hs (w := w') (S := S) (σ := σ) 0 0 (n + 1) cap (by omega) hn
    rwa [Nat.zero_mul] at this
  · intro b blk hb
    rcases b with _ | _ | b
    · cases hb
      refine ⟨⟨cur', ty, fr, b1, by rw [b2]; exact g0, by rw [b2]; exact g2, b3, g6, by omega, fun m e hm => ?_⟩, trivial, hS0⟩
      rw [g6]
      exact hh m e hm
    · cases hb
      exact ⟨h1.mono (A := fun _ => True) trivial trivial hsame (fun _ q => q) (fun _ _ => rfl) (hoth _ fun q => hap q.symm), trivial, hS1⟩
    · simp at hb
  · simp only [List.length_cons, List.length_nil] at q1 q2
    have : (b = 0 ∧ b' = 1) ∨ (b = 1 ∧ b' = 0) := by omega
    rcases this with ⟨rfl, rfl⟩ | ⟨rfl, rfl⟩
    · exact hap
    · exact fun q => hap q.symm
/-- There is a new row. -/
theorem post_new {w w' : World} {σ : Nat → Loc} {S : Kx → Prop} {els new : List (List PV)} {el : List PV} {n cap : Nat} {row : Array Value} {ty : TypeId}
    (h0 : BlkRep w S σ 0 (.arr 2 els)) (h1 : BlkRep w S σ 1 (.arr 2 [el])) (hap : (σ 0).k ≠ (σ 1).k) (hS0 : ∀ x, S x → x.b ≠ (σ 0).k) (hS1 : ∀ x, S x → x.b ≠ (σ 1).k) (hS : ∀ k, S k → k.b < w.heap.size) {own : Bool} (hok : Go.Abs.SOk S) (hfr : own = false → Free S) (hn : n + 1 ≤ cap) (hnew : new.length = n + 1)
    (b1 : w'.heap[w.heap.size]? = some (.cells row ty (0, 0))) (b2 : row.size = cap * 2) (b3 : ∀ v ∈ row, v.oneCell' = true) (hh : Holds w' S new (row[·]?))
    (hoth : ∀ k, k < w.heap.size → w'.heap[k]? = w.heap[k]?) (hsz : w'.heap.size = w.heap.size + 1) (e1 : w'.os = w.os) (e2 : w'.tape = w.tape) (e3 : w'.output = w.output) :
    ∃ v, Ending.returned (.slice (some ⟨w.heap.size, 0, none⟩) (n + 1) cap) = .returned v ∧ ∃ (j : Nat) (out : List Blk), out[j]? = some (.arr 2 new) ∧ out.length ≤ 2 + 1 ∧ (j = 2 ∨ out.length = 2) ∧ PostO own w 2 σ S (.one (.hs j 0 (n + 1))) out v w' := by
  have hsame : ∀ k, S k → w'.heap[k.b]? = w.heap[k.b]? := fun k hk => hoth k.b (hS k hk)
  have hin : ∀ b blk, BlkRep w S σ b blk → (σ b).k < w.heap.size := fun b blk h => by
    obtain ⟨c, ty, fr, a1, _⟩ := h
    exact (Array.getElem?_eq_some_iff.1 a1).1
  have i0 := hin 0 _ h0
  have i1 := hin 1 _ h1
  let σ2 : Nat → Loc := fun b => if b = 2 then ⟨w.heap.size, 2, cap⟩ else σ b
  have s0 : σ2 0 = σ 0 := rfl
  have s1 : σ2 1 = σ 1 := rfl
  have s2 : σ2 2 = ⟨w.heap.size, 2, cap⟩ := rfl
  refine ⟨_, rfl, 2, [.arr 2 els, .arr 2 [el], .arr 2 new], rfl, Nat.le_of_ble_eq_true rfl, .inl rfl, σ2, S, .one ?_, .one (by show 2 < 3; decide), Nat.le_of_ble_eq_true rfl, ?_, fun b b' q1 q2 q3 => ?_, fun b q => if_neg (by omega), fun b q1 q2 => ?_, fun k hk => by have := hS k hk; omega, fun k hk _ => hk, e1, e2, e3, by omega, fun k hk hne => hoth k hk, hok, hfr⟩
  · have := RepC.hs (w := w') (S := S) (σ := σ2) 2 0 (n + 1) cap (by rw [s2]; show 0 + cap ≤ cap; omega) hn
    rwa [Nat.zero_mul, s2] at this
  · intro b blk hb
    rcases b with _ | _ | _ | b
    · cases hb
      exact ⟨h0.mono (A := fun b => b ≠ 2) trivial (by decide) hsame (fun _ q => q) (fun b hb => if_neg hb) (hoth _ i0), trivial, hS0⟩
    · cases hb
      exact ⟨h1.mono (A := fun b => b ≠ 2) trivial (by decide) hsame (fun _ q => q) (fun b hb => if_neg hb) (hoth _ i1), trivial, hS1⟩
    · cases hb
      refine ⟨⟨row, ty, (0, 0), b1, fun o _ => by simp, b2, b3, rfl, by show new.length ≤ cap; omega, fun m e hm => hh m e hm⟩, trivial, fun x hx q => ?_⟩
      have := hS _ hx
      have q : x.b = w.heap.size := q
      omega
    · simp at hb
  · simp only [List.length_cons, List.length_nil] at q1 q2
    have : b = 0 ∨ b = 1 ∨ b = 2 := by omega
    have : b' = 0 ∨ b' = 1 ∨ b' = 2 := by omega
    rcases ‹b = 0 ∨ b = 1 ∨ b = 2› with rfl | rfl | rfl <;> rcases ‹b' = 0 ∨ b' = 1 ∨ b' = 2› with rfl | rfl | rfl
    · exact absurd rfl q3
    · exact hap
    · intro q; have q' : (σ 0).k = w.heap.size := q; omega
    · intro q; exact hap q.symm
    · exact absurd rfl q3
    · intro q; have q' : (σ 1).k = w.heap.size := q; omega
    · intro q; have q' : w.heap.size = (σ 0).k := q; omega
    · intro q; have q' : w.heap.size = (σ 1).k := q; omega
    · exact absurd rfl q3
  · simp only [List.length_cons, List.length_nil] at q2
    have : b = 2 := by omega
    subst this
    exact Nat.le_refl _
set_option maxHeartbeats 4000000 in
theorem good_ins (els : List (List PV)) (el : List PV) (n i : Nat) (hn : n = els.length) (hi : i ≤ n) (hb : n ≤ 1000000) :
    GoodE Tryz.prog 73 [.one (.hs 0 0 n), vint i, .one (.hs 1 0 1)] [.arr 2 els, .arr 2 [el]] (n + 1) 2 (insAt els i el) := by
  intro own w vs σ S hl hr hin hlent hap hS hG hok hfr
  rcases vs with ⟨l⟩
  rcases l with _ | ⟨v0, _ | ⟨v1, _ | ⟨v2, _ | ⟨v3, l⟩⟩⟩⟩
  · cases hl
  · cases hl
  · cases hl
  · have h0 := hr 0 _ v0 rfl rfl
    have h1 := lit_inv (hr 1 _ v1 rfl rfl) rfl
    have h2 := hr 2 _ v2 rfl rfl
    subst h1
    obtain ⟨B0, _, hnS⟩ := hlent 0 _ rfl
    obtain ⟨B1, _, hnS1⟩ := hlent 1 _ rfl
    have hap1 : (σ 0).k ≠ (σ 1).k := hap 0 1 (Nat.le_of_ble_eq_true rfl) (Nat.le_of_ble_eq_true rfl) (by decide)
    have B0' := B0
    have B1' := B1
    obtain ⟨cur, ty, fr, g1, g0, g2, g3, g6, g4, g5⟩ := B0'
    obtain ⟨cur1, ty1, fr1, k1, k0, k2, k3, k6, k4, k5⟩ := B1'
    cases h2 with | one h2 =>
    cases h2 with
    | hs _ _ _ vc hvc hv1 =>
    rw [Nat.zero_mul]
    have hinsl : (insAt els i el).length = n + 1 := by rw [insAt_len (by omega), hn]
    obtain ⟨cs, hcs⟩ : ∃ cs, cs = cur.toList.take (n * 2) := ⟨_, rfl⟩
    obtain ⟨vs, hvs⟩ : ∃ vs, vs = cur1.toList.take 2 := ⟨_, rfl⟩
    have hg4 : els.length * 2 ≤ cur.size := by rw [g2, g6]; exact Nat.mul_le_mul_right _ g4
    have hcl : cs.length = n * 2 := by rw [hcs, List.length_take, Array.length_toList]; omega
    have hk4 : 2 ≤ cur1.size := by rw [k2, k6]; have : 1 ≤ (σ 1).cap := k4; omega
    have hvl : vs.length = 2 := by rw [hvs, List.length_take, Array.length_toList]; omega
    have hcg : ∀ p, p < n * 2 → cs[p]? = cur[p]? := fun p hp => by rw [hcs, List.getElem?_take, if_pos hp, Array.getElem?_toList]
    have hvg : ∀ p, p < 2 → vs[p]? = cur1[p]? := fun p hp => by rw [hvs, List.getElem?_take, if_pos hp, Array.getElem?_toList]
    have hcc : ∀ j v, cs[j]? = some v → w.cell? ⟨(σ 0).k, j, none⟩ = some v := fun j v hv => by
      have := (List.getElem?_eq_some_iff.1 hv).1
      rw [hcg j (by omega)] at hv
      rw [World.cell_of g1]; exact hv
    have hvc2 : ∀ j v, vs[j]? = some v → w.cell? ⟨(σ 1).k, j, none⟩ = some v := fun j v hv => by
      have := (List.getElem?_eq_some_iff.1 hv).1
      rw [hvg j (by omega)] at hv
      rw [World.cell_of k1]; exact hv
    have h1c : ∀ v ∈ cs, v.oneCell' = true := fun v hv => by
      rw [hcs] at hv
      exact g3 v (Array.mem_def.2 (List.mem_of_mem_take hv))
    have h1v : ∀ v ∈ vs, v.oneCell' = true := fun v hv => by
      rw [hvs] at hv
      exact k3 v (Array.mem_def.2 (List.mem_of_mem_take hv))
    have Hc : Holds w S els (cs[·]?) := fun m e hm => by
      have hm2 := (List.getElem?_eq_some_iff.1 hm).1
      obtain ⟨a1, a2⟩ := g5 m e hm
      rw [g6] at a1 a2
      refine ⟨a1, fun j x hj => ?_⟩
      have hj2 := (List.getElem?_eq_some_iff.1 hj).1
      obtain ⟨v, b1, b2⟩ := a2 j x hj
      exact ⟨v, (hcg _ (by omega)).trans b1, b2⟩
    have Hv : Holds w S [el] (vs[·]?) := fun m e hm => by
      have hm2 := (List.getElem?_eq_some_iff.1 hm).1
      simp only [List.length_cons, List.length_nil] at hm2
      obtain ⟨a1, a2⟩ := k5 m e hm
      rw [k6] at a1 a2
      refine ⟨a1, fun j x hj => ?_⟩
      have hj2 := (List.getElem?_eq_some_iff.1 hj).1
      obtain ⟨v, b1, b2⟩ := a2 j x hj
      exact ⟨v, (hvg _ (by omega)).trans b1, b2⟩
    have HI := holds_ins hn hcl hvl hi Hc Hv
    have hing := insL_get hcl hvl hi
    have i0 : (σ 0).k < w.heap.size := (Array.getElem?_eq_some_iff.1 g1).1
    -- the roads
    have grown : ∀ (base : Option Addr) (cap : Nat), n ≤ cap → cap < n + 1 → i = n → (base = none → n = 0) → (∀ a, base = some a → ∀ j v, cs[j]? = some v → w.cell? (a.add j) = some v) →
        Calls Tryz.prog 73 #[.slice base n cap, .int .i64 i, .slice (some ⟨(σ 1).k, 0, none⟩) 1 vc] w fun en w' => ∃ v, en = .returned v ∧ ∃ (j : Nat) (out : List Blk), out[j]? = some (.arr 2 (insAt els i el)) ∧ out.length ≤ 2 + 1 ∧ (j = 2 ∨ out.length = 2) ∧ PostO own w 2 σ S (.one (.hs j 0 (n + 1))) out v w' := by
      intro base cap q1 q2 q3 q4 q5
      subst q3
      refine Calls.mono (ins_end_grow base i cap (σ 1).k vc cs vs w hb q1 q2 hcl hvl q4 q5 hvc2 h1v) ?_
      rintro e w' ⟨rfl, rfl⟩
      have hG := grownCap_ge w (i + 1) cap 96
      generalize grownCap w (i + 1) cap 96 = G at hG ⊢
      have hsz : ((cs ++ vs).toArray ++ Builtin.zeroCells zEq.cells (G - (i + 1))).size = G * 2 := by
        rw [Array.size_append, zc_size, List.size_toArray, List.length_append]; omega
      refine post_new B0 B1 hap1 hnS hnS1 hS hok hfr hG hinsl (heap_push_last _ _) hsz ?_ ?_ (fun k hk => heap_push_old _ _ k hk) (heap_push_size _ _) rfl rfl rfl
      · intro v hv
        rcases Array.mem_append.1 hv with hv | hv
        · rcases List.mem_append.1 (List.mem_toArray.1 hv) with hv | hv
          · exact h1c v hv
          · exact h1v v hv
        · exact zc_one _ v hv
      · refine holds_mono HI (N := i + 1) (by omega) (fun p hp => ?_) fun k hk => heap_push_old _ _ k.b (hS k hk)
        show (((cs ++ vs).toArray ++ Builtin.zeroCells zEq.cells (G - (i + 1)))[p]? : Option Value) = _
        rw [Array.getElem?_append_left (by rw [List.size_toArray, List.length_append]; omega), List.getElem?_toArray, hing]
        split
        · rename_i q; rw [List.getElem?_append_left (by omega)]
        · rename_i q; rw [List.getElem?_append_right (by omega), hcl]
    cases h0 with | one h0 =>
    cases h0 with
    | hs0 _ _ a =>
      have hi0 : i = 0 := by omega
      have hcs0 : cs = [] := List.eq_nil_of_length_eq_zero (by omega)
      exact grown a 0 (Nat.le_refl _) (by omega) hi0 (fun _ => rfl) fun a _ j v hv => by rw [hcs0] at hv; simp at hv
    | hs _ _ _ cap hc hnc =>
    rw [Nat.zero_mul]
    have hcap : cap * 2 ≤ cur.size := by rw [g2, g6]; exact Nat.mul_le_mul_right _ (by omega)
    by_cases hroom : n + 1 ≤ cap
    · have hsp : ∀ j, j < (n + 1) * 2 → (w.cell? ⟨(σ 0).k, j, none⟩).isSome = true := fun j hj => by
        rw [World.cell_of g1, Array.getElem?_eq_getElem (by omega)]; rfl
      have hfz : ∀ j, j < (n + 1) * 2 → w.frozen? ⟨(σ 0).k, j, none⟩ = false := fun j hj => by
        rw [World.frozen_of g1]; exact g0 j (.inl (by omega))
      by_cases hin2 : i = n
      · subst hin2
        refine Calls.mono (ins_end_room (σ 0).k i cap (σ 1).k vc vs w hb hroom hvl (fun j hj => hsp _ (by omega)) (fun j hj => hfz _ (by omega)) hvc2 h1v) ?_
        rintro e w' ⟨rfl, rfl⟩
        have o1 := setCells_os (σ 0).k vs (i * 2) w
        refine post_in g1 g0 g2 g6 B1 hap1 hnS hnS1 hS hok hfr (by omega) hroom hinsl (setCells_heap _ ty fr vs (i * 2) cur w g1) (spl_size ..) ?_ ?_ (fun k hk => setCells_other _ _ _ _ _ hk) (setCells_size ..) o1.1 o1.2.1 o1.2.2
        · intro v hv
          obtain ⟨m, hm⟩ := Array.mem_iff_getElem?.1 hv
          rw [spl_get _ _ _ _ (by omega)] at hm
          split at hm
          · exact h1v v (List.mem_of_getElem? hm)
          · exact g3 v (Array.mem_of_getElem? hm)
        · refine holds_mono HI (N := i + 1) (by omega) (fun p hp => ?_) fun k hk => setCells_other _ _ _ _ _ (hnS k hk)
          show ((spl cur (i * 2) vs)[p]? : Option Value) = _
          rw [spl_get _ _ _ _ (by omega), hing]
          by_cases q : p < i * 2
          · rw [if_neg (by omega), if_pos q, hcg p q]
          · rw [if_pos (by omega), if_neg q, if_pos hp]
      · have hin3 : i < n := by omega
        refine Calls.mono (ins_shift (σ 0).k n cap i (σ 1).k vc cs vs w hb hin3 hroom (fun q => hap1 q.symm) hcl hvl hcc hsp hfz hvc2 h1c h1v ty1 ty cur1.size cur.size ?_ ?_ (by omega) ?_ ?_) ?_
        · unfold World.shape?; rw [k1]
        · unfold World.shape?; rw [g1]
        · rw [World.frozen_of k1]; exact k0 0 (.inl (by omega))
        · rw [World.frozen_of k1]; exact k0 _ (.inr ⟨rfl, by rw [k6]; decide⟩)
        rintro e w' ⟨rfl, rfl⟩
        have hdl : (cs.drop (i * 2)).length = (n - i) * 2 := by rw [List.length_drop, hcl]; omega
        have o1 := setCells_os (σ 0).k (cs.drop (i * 2)) ((i + 1) * 2) w.drew
        have o2 := setCells_os (σ 0).k vs (i * 2) (w.drew.setCells (σ 0).k ((i + 1) * 2) (cs.drop (i * 2)))
        have b1 := setCells_heap (σ 0).k ty fr (cs.drop (i * 2)) ((i + 1) * 2) cur w.drew g1
        have s1 : (spl cur ((i + 1) * 2) (cs.drop (i * 2))).size = cur.size := spl_size ..
        have hoth : ∀ k, k ≠ (σ 0).k → ((w.drew.setCells (σ 0).k ((i + 1) * 2) (cs.drop (i * 2))).setCells (σ 0).k (i * 2) vs).heap[k]? = w.heap[k]? := fun k hk => (setCells_other _ _ _ _ _ hk).trans (setCells_other _ _ _ _ _ hk)
        refine post_in g1 g0 g2 g6 B1 hap1 hnS hnS1 hS hok hfr (by omega) hroom hinsl (setCells_heap _ ty fr vs (i * 2) _ _ b1) (by rw [spl_size, s1]) ?_ ?_ hoth ((setCells_size ..).trans (setCells_size ..)) (o2.1.trans o1.1) (o2.2.1.trans o1.2.1) (o2.2.2.trans o1.2.2)
        · intro v hv
          obtain ⟨m, hm⟩ := Array.mem_iff_getElem?.1 hv
          rw [spl_get _ _ _ _ (by rw [s1]; omega)] at hm
          split at hm
          · exact h1v v (List.mem_of_getElem? hm)
          · rw [spl_get _ _ _ _ (by omega)] at hm
            split at hm
            · exact h1c v (List.mem_of_mem_drop (List.mem_of_getElem? hm))
            · exact g3 v (Array.mem_of_getElem? hm)
        · refine holds_mono HI (N := n + 1) (by omega) (fun p hp => ?_) fun k hk => hoth k.b (hnS k hk)
          show ((spl (spl cur ((i + 1) * 2) (cs.drop (i * 2))) (i * 2) vs)[p]? : Option Value) = _
          rw [spl_get _ _ _ _ (by rw [s1]; omega), hing]
          by_cases q : p < i * 2
          · rw [if_neg (by omega), if_pos q, spl_get _ _ _ _ (by omega), if_neg (by omega), hcg p (by omega)]
          · rw [if_neg q]
            by_cases q2 : p < (i + 1) * 2
            · rw [if_pos (by omega), if_pos q2]
            · rw [if_neg (by omega), if_neg q2, spl_get _ _ _ _ (by omega), if_pos (by omega), List.getElem?_drop]
              congr 1; omega
    · by_cases hin2 : i = n
      · exact grown (some ⟨(σ 0).k, 0, none⟩) cap hnc (by omega) hin2 (fun q => by cases q) fun a ha j v hv => by
          cases ha
          rw [Addr.add_lit, Nat.zero_add]; exact hcc j v hv
      · have hin3 : i < n := by omega
        refine Calls.mono (ins_grow (σ 0).k n cap i (σ 1).k vc cs vs w hb hin3 hnc (by omega) hcl hvl hcc hvc2 h1c h1v) ?_
        rintro e w' ⟨rfl, rfl⟩
        have hG := grownCap_ge w (n + 1) cap 96
        generalize grownCap w (n + 1) cap 96 = G at hG ⊢
        obtain ⟨row, hrow⟩ : ∃ row, row = (cs.take (i * 2)).toArray ++ Builtin.zeroCells zEq.cells (n + 1 - i) ++ Builtin.zeroCells zEq.cells (G - (n + 1)) := ⟨_, rfl⟩
        rw [← hrow]
        have hr0 : row.size = G * 2 := by
          rw [hrow, Array.size_append, Array.size_append, zc_size, zc_size, List.size_toArray, List.length_take]; omega
        have hr1 : ∀ p, p < i * 2 → row[p]? = cs[p]? := fun p hp => by
          rw [hrow, Array.append_assoc, Array.getElem?_append_left (by rw [List.size_toArray, List.length_take]; omega), List.getElem?_toArray, List.getElem?_take, if_pos hp]
        have hr2 : ∀ v ∈ row, v.oneCell' = true := fun v hv => by
          rw [hrow] at hv
          rcases Array.mem_append.1 hv with hv | hv
          · rcases Array.mem_append.1 hv with hv | hv
            · exact h1c v (List.mem_of_mem_take (List.mem_toArray.1 hv))
            · exact zc_one _ v hv
          · exact zc_one _ v hv
        have hdl : (cs.drop (i * 2)).length = (n - i) * 2 := by rw [List.length_drop, hcl]; omega
        obtain ⟨W1, hW1⟩ : ∃ W1, W1 = (w.alloc (.cells row 96)).drew := ⟨_, rfl⟩
        rw [← hW1]
        have a1 : W1.heap[w.heap.size]? = some (.cells row 96 (0, 0)) := by rw [hW1]; exact heap_push_last w _
        have a2 : ∀ k, k < w.heap.size → W1.heap[k]? = w.heap[k]? := fun k hk => by rw [hW1]; exact heap_push_old w _ k hk
        have a3 : W1.heap.size = w.heap.size + 1 := by rw [hW1]; exact heap_push_size w _
        have a4 : W1.os = w.os ∧ W1.tape = w.tape ∧ W1.output = w.output := by rw [hW1]; exact ⟨rfl, rfl, rfl⟩
        have o1 := setCells_os w.heap.size vs (i * 2) W1
        have o2 := setCells_os w.heap.size (cs.drop (i * 2)) ((i + 1) * 2) (W1.setCells w.heap.size (i * 2) vs).drew
        have b1 := setCells_heap w.heap.size 96 (0, 0) vs (i * 2) row W1 a1
        have s1 : (spl row (i * 2) vs).size = row.size := spl_size ..
        have hoth : ∀ k, k < w.heap.size → ((W1.setCells w.heap.size (i * 2) vs).drew.setCells w.heap.size ((i + 1) * 2) (cs.drop (i * 2))).heap[k]? = w.heap[k]? := fun k hk =>
          (setCells_other _ _ _ _ _ (by omega)).trans ((setCells_other w.heap.size vs (i * 2) W1 k (by omega)).trans (a2 k hk))
        refine post_new B0 B1 hap1 hnS hnS1 hS hok hfr hG hinsl (setCells_heap w.heap.size 96 (0, 0) (cs.drop (i * 2)) ((i + 1) * 2) _ (W1.setCells w.heap.size (i * 2) vs).drew b1) (by rw [spl_size, s1, hr0]) ?_ ?_ hoth (((setCells_size w.heap.size (cs.drop (i * 2)) ((i + 1) * 2) (W1.setCells w.heap.size (i * 2) vs).drew).trans (setCells_size w.heap.size vs (i * 2) W1)).trans a3) ((o2.1.trans o1.1).trans a4.1) ((o2.2.1.trans o1.2.1).trans a4.2.1) ((o2.2.2.trans o1.2.2).trans a4.2.2)
        · intro v hv
          obtain ⟨m, hm⟩ := Array.mem_iff_getElem?.1 hv
          rw [spl_get _ _ _ _ (by rw [s1]; omega)] at hm
          split at hm
          · exact h1c v (List.mem_of_mem_drop (List.mem_of_getElem? hm))
          · rw [spl_get _ _ _ _ (by omega)] at hm
            split at hm
            · exact h1v v (List.mem_of_getElem? hm)
            · exact hr2 v (Array.mem_of_getElem? hm)
        · refine holds_mono HI (N := n + 1) (by omega) (fun p hp => ?_) fun k hk => hoth k.b (hS k hk)
          show ((spl (spl row (i * 2) vs) ((i + 1) * 2) (cs.drop (i * 2)))[p]? : Option Value) = _
          rw [spl_get _ _ _ _ (by rw [s1]; omega), hing]
          by_cases q : p < i * 2
          · rw [if_neg (by omega), if_pos q, spl_get _ _ _ _ (by omega), if_neg (by omega), hr1 p q]
          · rw [if_neg q]
            by_cases q2 : p < (i + 1) * 2
            · rw [if_neg (by omega), if_pos q2, spl_get _ _ _ _ (by omega), if_pos (by omega)]
            · rw [if_pos (by omega), if_neg q2, List.getElem?_drop]
              congr 1; omega
  · cases hl
end Go.Abs.F

set_option linter.unusedSimpArgs false
set_option linter.unusedVariables false
namespace Go.Abs.F
open Go Go.Abs Go.Proofs Go.RowKit
attribute [local irreducible] IntKind.wrap
def iM : FuncId → Bool := fun f => [73].contains f
/-- How many begin ahead of t. -/
def cntL (t : Eqn) (l : List Eqn) : Nat := (l.filter fun e => decide (pv e < pv t)).length
theorem cntL_le (t : Eqn) (l : List Eqn) : cntL t l ≤ l.length := List.length_filter_le ..
theorem cntL_snoc {t x : Eqn} {es : List Eqn} {i : Nat} (hx : es[i]? = some x) : cntL t (es.take (i + 1)) = cntL t (es.take i) + if pv x < pv t then 1 else 0 := by
  unfold cntL
  rw [take_snoc hx, List.filter_append, List.length_append]
  by_cases q : pv x < pv t
  · rw [if_pos q, List.filter_cons_of_pos (by simpa using q)]; rfl
  · rw [if_neg q, List.filter_cons_of_neg (by simpa using q)]; rfl
theorem insE_at {t : Eqn} : ∀ {l : List Eqn}, (l.Pairwise fun a b => pv a < pv b) → (∀ e ∈ l, pv e ≠ pv t) → insE t l = l.take (cntL t l) ++ t :: l.drop (cntL t l)
  | [], _, _ => rfl
  | e :: l, h, hne => by
    obtain ⟨h1, h2⟩ := List.pairwise_cons.1 h
    have he := hne e List.mem_cons_self
    unfold insE
    by_cases q : pv t < pv e
    · rw [if_pos q]
      have h0 : cntL t (e :: l) = 0 := by
        unfold cntL
        rw [List.length_eq_zero_iff, List.filter_eq_nil_iff]
        intro f hf
        rcases List.mem_cons.1 hf with rfl | hf
        · simp; omega
        · have := h1 f hf; simp; omega
      rw [h0]; rfl
    · rw [if_neg q]
      have h0 : cntL t (e :: l) = cntL t l + 1 := by
        unfold cntL
        rw [List.filter_cons_of_pos (by simp; omega)]; rfl
      rw [h0, List.take_succ_cons, List.drop_succ_cons, List.cons_append, ← insE_at h2 fun f hf => hne f (List.mem_cons_of_mem _ hf)]
theorem cntL_map {t : Eqn} {f : Eqn → Eqn} : ∀ {l : List Eqn}, (∀ e ∈ l, pv (f e) = pv e) → cntL t (l.map f) = cntL t l
  | [], _ => rfl
  | e :: l, h => by
    have ih := cntL_map (t := t) (l := l) fun x hx => h x (List.mem_cons_of_mem _ hx)
    unfold cntL at ih ⊢
    have he := h e List.mem_cons_self
    by_cases q : pv e < pv t
    · rw [List.map_cons, List.filter_cons_of_pos (by simpa [he] using q), List.filter_cons_of_pos (by simpa using q), List.length_cons, List.length_cons, ih]
    · rw [List.map_cons, List.filter_cons_of_neg (by simpa [he] using q), List.filter_cons_of_neg (by simpa using q), ih]
theorem addE_at {c : Int} {z : Nat} {es : List Eqn} (h : EqOk c z es) {t : Eqn} (ht : RedP c z es (t.r, t.d)) (hne : t.r ≠ []) : insAt ((es.map (sub1 t)).map eE) (cntL t es) (eE t) = (addE es t).map eE := by
  have hs := fun {e : Eqn} (he : e ∈ es) => sub1_ok h ht hne he
  have hmap : ∀ f ∈ es.map (sub1 t), ∃ e ∈ es, f = sub1 t e := fun f hf => by
    obtain ⟨e, he, rfl⟩ := List.mem_map.1 hf; exact ⟨e, he, rfl⟩
  have hasc : (es.map (sub1 t)).Pairwise fun a b => pv a < pv b := by
    rw [List.pairwise_map]
    refine List.Pairwise.imp_of_mem (fun {a b} ha hb hab => ?_) h.asc
    rw [(hs ha).pv_, (hs hb).pv_]; exact hab
  unfold addE insAt
  rw [insE_at hasc, cntL_map fun e he => (hs he).pv_, List.map_append, List.map_cons, List.map_take, List.map_drop]
  intro f hf
  obtain ⟨e, he, rfl⟩ := hmap f hf
  rw [(hs he).pv_]
  exact fun q => ht.no e he (q ▸ pv_mem hne)
set_option maxHeartbeats 16000000 in
set_option maxRecDepth 100000 in
theorem implAdd_own (c z : Int) (es : List Eqn) (hB : SBd c z es) (h : SOk c z es) (r : List Int) (d : ByteArray) (hr : RowP c r) (hd : d.size = z.toNat) (q : List Int × ByteArray) (hq : q = red es (r, d)) (A : List Eqn × Int) (hA : A = addR es q z.toNat) :
    ∃ v out, AddR c z A v out ∧ Good Tryz.prog 30 [solF c z es, .one (.p (slI r)), vstr d] [] v out := by
  have hm : (es.map eE).length = es.length := List.length_map ..
  have hn := eqs_len0 h
  have hz1 := h.z1; have hz2 := h.z2; have hc2 := h.c2; have hc1 := h.c1
  have hR : RedP c z.toNat es q := hq ▸ red_ok h.eq hr hd
  have hr24 : RowP 24 r := hr.mono hc2
  have hrl := row_len hr24
  have hrm : (r.map eI).length = r.length := List.length_map ..
  obtain ⟨u, e⟩ := q
  have hu24 : RowP 24 u := hR.row.mono hc2
  have hul := row_len hu24
  have hes : e.size = z.toNat := hR.dat
  have hum : (u.map eI).length = u.length := List.length_map ..
  have gl := reduce_ok c z es hB z.toNat h.eq hc2 (by omega) r d hr hd (u, e) hq
  simp only at gl
  obtain ⟨zc, hzc⟩ : ∃ zc : Nat, z = zc := ⟨z.toNat, by omega⟩
  have hzt : z.toNat = zc := by omega
  have hdz : ((d.size : Int) != z) = false := by
    cases q : ((d.size : Int) != z) with
    | false => rfl
    | true => have := bne_iff_ne.1 q; omega
  have fin : ∃ v out, AddR c z A v out ∧ (u = [] → v = .tup [solF c z A.1, vint A.2] ∧ out = []) ∧ (u ≠ [] → v = .tup [.agg [.p (.lit (.int .i64 c)), .p (.lit (.int .i64 z)), .hs 0 0 A.1.length], vint A.2] ∧ out = [.arr 2 (A.1.map eE)]) := by
    by_cases hh : u = []
    · exact ⟨_, _, .old, fun _ => ⟨rfl, rfl⟩, fun h2 => absurd hh h2⟩
    · exact ⟨_, _, .new, fun h2 => absurd h2 hh, fun _ => ⟨rfl, rfl⟩⟩
  obtain ⟨v, out, hL, hv1, hv2⟩ := fin
  refine ⟨v, out, hL, ?_⟩
  refine good_e iM Tryz.func30 rfl rfl ?_
  conv => whnf
  refine .mk _ _ false Tryz.call67 (implRow_ok r c (by omega) (by omega) (by omega) true ⟨fun _ => ⟨hr, by omega, hc2⟩, fun _ => rfl⟩) (Nat.le_of_ble_eq_true rfl) (.inl rfl) ?_
  conv => whnf
  rw [hdz]
  conv => whnf
  refine VDraw.goR [0, 0, 2, 0, 15, 31, 63, 63, 127, 511] [2, 4] [] [] rfl (by decide +kernel) ?_
  conv => whnf
  refine .mk _ _ false Tryz.call69 (mask_ok r (by omega) hr24) (Nat.le_of_ble_eq_true rfl) (.inl rfl) ?_
  conv => whnf
  refine .mk _ _ false Tryz.call68 gl (Nat.le_of_ble_eq_true rfl) (.inl rfl) ?_
  conv => whnf
  rw [beq0]
  cases hu0 : decide (mk u = 0) with
  | true =>
    have hu1 : u = [] := (mk_zero hu24).1 (of_decide_eq_true hu0)
    subst hu1
    obtain ⟨rfl, rfl⟩ := hv1 rfl
    have hA2 : A = (es, if e = zs zc then 1 else 2) := by rw [hA, ← hzt]; exact if_pos rfl
    subst hA2
    conv => whnf
    have gz := implZeros_ok zc (by omega)
    rw [← hzc] at gz
    refine .mk _ _ false Tryz.call70 gz (Nat.le_of_ble_eq_true rfl) (.inl rfl) ?_
    conv => whnf
    rw [beqS]
    by_cases hz0 : e = zs zc
    · rw [if_pos hz0, decide_eq_true hz0]
      conv => whnf
      refine .mk _ _ false Tryz.call66 (implClone_ok c z es hB) (Nat.le_of_ble_eq_true rfl) (.inl rfl) ?_
      conv => whnf
      refine ⟨⟨⟨by decide +kernel, Nat.le_of_ble_eq_true rfl⟩, trivial⟩, ?_⟩
      conv => whnf
      exact ⟨rfl, rfl⟩
    · rw [if_neg hz0, decide_eq_false hz0]
      conv => whnf
      refine .mk _ _ false Tryz.call66 (implClone_ok c z es hB) (Nat.le_of_ble_eq_true rfl) (.inl rfl) ?_
      conv => whnf
      refine ⟨⟨⟨by decide +kernel, Nat.le_of_ble_eq_true rfl⟩, trivial⟩, ?_⟩
      conv => whnf
      exact ⟨rfl, rfl⟩
  | false =>
    have hu1 : u ≠ [] := fun q => by subst q; cases hu0
    obtain ⟨rfl, rfl⟩ := hv2 hu1
    obtain ⟨t, ht⟩ : ∃ t : Eqn, t = ⟨u, e⟩ := ⟨_, rfl⟩
    have htr : t.r = u := by rw [ht]
    have htd : t.d = e := by rw [ht]
    have hA2 : A = (addE es t, 0) := by rw [hA, ht]; exact if_neg hu1
    subst hA2
    have hsub : ∀ {x : Eqn}, x ∈ es → SubP c z.toNat t x (sub1 t x) := fun hx => sub1_ok h.eq (by rw [htr, htd]; exact hR) (by rw [htr]; exact hu1) hx
    have hul0 : 0 < u.length := List.length_pos_iff.2 hu1
    have hpu : pv t ∈ u := htr ▸ pv_mem (by rw [htr]; exact hu1)
    obtain ⟨p, hp⟩ : ∃ p : Nat, pv t = p := ⟨(pv t).toNat, by have := hu24.lo _ hpu; omega⟩
    have hp24 := hu24.hi _ hpu
    have hg : (u.map eI).getD 0 [] = eI (p : Int) := by rw [← hp, ht, ← pv_at (e := ⟨u, e⟩) hu1]; exact atI u rfl hul0
    have gr := rowOf_ok (mk u) (mk_lt (c := 24) hu24.lo hu24.hi)
    rw [un_mk hu24] at gr
    conv => whnf
    refine .mk _ _ false Tryz.call71 gr (Nat.le_of_ble_eq_true rfl) (.inl rfl) ?_
    conv => whnf
    refine VLoop.enter [6, 8, 9, 10, 11, 12, 60, 61, 62] ?_
    conv => whnf
    refine VLoop.ind4 (n0 := 5) (α := Int) (β := Int) (γ := Nat) (δ := List (List PV)) iM [6, 8, 9, 10, 11, 12, 60, 61, 62] (fun i k n E => ⟨125, 0, [(6, .one (.hp 0 0 0)), (8, lit (.int .u32 (mk u))), (9, vstr e), (10, .one (.hp 1 0 0)), (11, .one (.hp 2 0 0)), (12, vint k), (60, .one (.p (.sl (es.map eE)))), (61, vint (es.map eE).length), (62, vint i)],
        [(0, some (.box [.p (.lit (.int .i64 0)), .p (.lit (.int .i64 0)), nilS])), (1, some (.box [.hs 3 0 u.length, .p (.lit (.string e))])), (2, some (.box [.p (.lit (.int .i64 c)), .p (.lit (.int .i64 z)), .hs 4 0 n])), (3, some (.arr 1 (u.map eI))), (4, some (.arr 2 E))]⟩)
      (fun i k n E => ∃ j : Nat, i = j ∧ j ≤ es.length ∧ k = (cntL t (es.take j) : Nat) ∧ n = j ∧ E = ((es.take j).map (sub1 t)).map eE) (fun i _ _ _ => ((es.length : Int) - i).toNat) ?_ 0 0 0 [] ⟨0, rfl, by omega, rfl, rfl, rfl⟩
    rintro _ _ i _ ⟨j, rfl, hi, rfl, hn2, rfl⟩
    subst hn2
    have hwi : IntKind.i64.wrap ((i : Int) + 1) = ((i + 1 : Nat) : Int) := by rw [wrap_in _ (by omega) (by omega)]; omega
    have hcnt := cntL_le t (es.take i)
    rw [List.length_take] at hcnt
    have hwk : IntKind.i64.wrap (((cntL t (es.take i) : Nat) : Int) + 1) = ((cntL t (es.take i) + 1 : Nat) : Int) := by rw [wrap_in _ (by omega) (by omega)]; omega
    have htl : (((es.take i).map (sub1 t)).map eE).length = i := by rw [List.length_map, List.length_map, List.length_take]; omega
    conv => whnf
    rw [hm]
    split
    · rename_i q1
      have q1' := of_decide_eq_true q1
      have en : (i : Int).toNat = i := Int.toNat_natCast i
      obtain ⟨x, hx⟩ : ∃ x, es[i]? = some x := ⟨_, List.getElem?_eq_getElem (by omega)⟩
      have hxm := mem_at hx
      obtain ⟨hxr, hxd⟩ := hB.r x hxm
      obtain ⟨h1, h2, h3⟩ := h.eq.row x hxm
      have hx24 : RowP 24 x.r := h1.mono hc2
      have hS := hsub hxm
      have hx0 := len0.1 h2
      have hxl : (x.r.map eI).length = x.r.length := List.length_map ..
      have hxg : (x.r.map eI).getD 0 [] = eI (pv x) := by rw [← pv_at h2]; exact atI x.r rfl hx0
      have hbit := bitW (m := mk x.r) (i := p) (mk32 hx24) (by omega)
      have hhas := mk_has hx24 (p := pv t) (hu24.lo _ hpu)
      rw [hp, Int.toNat_natCast, ← hp] at hhas
      have hxw := xorW (mk32 hx24) (mk32 hu24)
      have hcs := cntL_snoc (t := t) hx
      conv => whnf
      refine ⟨by omega, by rw [hm]; omega, _, atE es en hx, ?_⟩
      conv => whnf
      refine .mk _ _ false Tryz.call69 (mask_ok x.r (by omega) hx24) (Nat.le_of_ble_eq_true rfl) (.inl rfl) ?_
      conv => whnf
      refine ⟨by omega, by omega, by rw [hum]; omega, ?_⟩
      conv => whnf
      refine ⟨_, hg, ?_⟩
      conv => whnf
      rw [hbit, hhas]
      split
      · rename_i q2
        have q2p := of_decide_eq_true q2
        have hf : sub1 t x = ⟨rx x.r u, dx x.d e⟩ := by unfold sub1; rw [if_pos q2p, htr, htd]
        have gr2 := rowOf_ok (mk x.r ^^^ mk u) (Nat.xor_lt_two_pow (mk_lt (c := 24) hx24.lo hx24.hi) (mk_lt (c := 24) hu24.lo hu24.hi))
        rw [un_xor hx24 hu24] at gr2
        have gx := implXor_ok x.d e (by omega) (by omega)
        obtain ⟨fr, hfr⟩ : ∃ fr, fr = rx x.r u := ⟨_, rfl⟩
        obtain ⟨fd, hfd⟩ : ∃ fd, fd = dx x.d e := ⟨_, rfl⟩
        rw [← hfr] at gr2
        rw [← hfd] at gx
        rw [← hfr, ← hfd] at hf
        have hfl : (fr.map eI).length = fr.length := List.length_map ..
        have hfe : [PV.sl (fr.map eI), PV.lit (.string fd)] = eE (sub1 t x) := by rw [hf]
        conv => whnf
        refine VDraw.goR [0, 1, 0, 0, 12, 28, 0, 64, 0, 508, 1020, 2044, 4095, 8191, 16383] [5, 9, 11, 12, 14] [(11, [5])] [(12, [4]), (14, [2])] rfl (by decide +kernel) ?_
        conv => whnf
        rw [hxw]
        refine .mk _ _ false Tryz.call71 gr2 (Nat.le_of_ble_eq_true rfl) (.inl rfl) ?_
        conv => whnf
        refine .mk _ _ false Tryz.call72 gx (Nat.le_of_ble_eq_true rfl) (.inl rfl) ?_
        conv => whnf
        refine ⟨⟨by rw [hfl]; omega, trivial, trivial⟩, ?_⟩
        conv => whnf
        refine ⟨⟨rfl, htl.symm, rfl⟩, Nat.le_refl 1, ?_⟩
        conv => whnf
        refine ⟨(fun q => by cases q), appE (show ((((es.take i).map (sub1 t)).map eE).length + 1 ≤ _) by rw [htl]; omega), fun el hel => by cases List.mem_singleton.1 hel; rfl, ?_⟩
        conv => whnf
        refine VDraw.goR [0, 1, 3, 7, 0, 16, 48, 112, 255] [] [] [] rfl (by decide +kernel) ?_
        conv => whnf
        refine ⟨by omega, by rw [hxl]; omega, _, hxg, ?_⟩
        conv => whnf
        refine ⟨by omega, by omega, by rw [hum]; omega, ?_⟩
        conv => whnf
        refine ⟨_, hg, ?_⟩
        conv => whnf
        rw [← hp]
        split
        · rename_i q3
          rw [if_pos (of_decide_eq_true q3)] at hcs
          conv => whnf
          rw [hwi, hwk]
          refine ⟨_, _, _, _, rfl, rfl, ⟨i + 1, rfl, by omega, by rw [hcs], ?_, ?_⟩, by omega⟩
          · rw [htl]; rfl
          · rw [take_snoc hx, List.map_append, List.map_append]; exact congrArg (fun r => ((es.take i).map (sub1 t)).map eE ++ [r]) (show [PV.sl (List.take fr.length (List.drop 0 (fr.map eI))), PV.lit (.string fd)] = eE (sub1 t x) by rw [takeI, hfe])
        · rename_i q3
          rw [if_neg (of_decide_eq_false q3)] at hcs
          conv => whnf
          rw [hwi]
          refine ⟨_, _, _, _, rfl, rfl, ⟨i + 1, rfl, by omega, by rw [hcs]; rfl, ?_, ?_⟩, by omega⟩
          · rw [htl]; rfl
          · rw [take_snoc hx, List.map_append, List.map_append]; exact congrArg (fun r => ((es.take i).map (sub1 t)).map eE ++ [r]) (show [PV.sl (List.take fr.length (List.drop 0 (fr.map eI))), PV.lit (.string fd)] = eE (sub1 t x) by rw [takeI, hfe])
      · rename_i q2
        have q2p := of_decide_eq_false q2
        have hf : sub1 t x = x := by unfold sub1; rw [if_neg q2p]
        conv => whnf
        refine VDraw.goR [0, 1, 0, 0, 8, 28, 0, 64, 252, 508, 1023, 2047, 4095] [2, 5, 9, 10, 12] [(5, [2]), (9, [5])] [(10, [4]), (12, [2])] rfl (by decide +kernel) ?_
        conv => whnf
        refine ⟨⟨rfl, rfl, rfl⟩, trivial, ?_⟩
        conv => whnf
        refine ⟨(fun q => by cases q), app3 (by rw [hxl]; show 0 + x.r.length ≤ _; omega), eI_len x.r, ?_⟩
        conv => whnf
        refine ⟨⟨by rw [List.length_append]; omega, trivial, trivial⟩, ?_⟩
        conv => whnf
        refine ⟨⟨rfl, htl.symm, rfl⟩, Nat.le_refl 1, ?_⟩
        conv => whnf
        refine ⟨(fun q => by cases q), appE (show ((((es.take i).map (sub1 t)).map eE).length + 1 ≤ _) by rw [htl]; omega), fun el hel => by cases List.mem_singleton.1 hel; rfl, ?_⟩
        conv => whnf
        refine VDraw.goR [0, 1, 3, 7, 0, 16, 48, 112, 255] [] [] [] rfl (by decide +kernel) ?_
        conv => whnf
        refine ⟨by omega, by rw [hxl]; omega, _, hxg, ?_⟩
        conv => whnf
        refine ⟨by omega, by omega, by rw [hum]; omega, ?_⟩
        conv => whnf
        refine ⟨_, hg, ?_⟩
        conv => whnf
        rw [← hp]
        split
        · rename_i q3
          rw [if_pos (of_decide_eq_true q3)] at hcs
          conv => whnf
          rw [hwi, hwk]
          refine ⟨_, _, _, _, rfl, rfl, ⟨i + 1, rfl, by omega, by rw [hcs], ?_, ?_⟩, by omega⟩
          · rw [htl]; rfl
          · rw [take_snoc hx, List.map_append, List.map_append]; exact congrArg (fun r => ((es.take i).map (sub1 t)).map eE ++ [r]) (show [PV.sl (List.take (0 + (x.r.map eI).length) (List.drop 0 ([] ++ x.r.map eI))), PV.lit (.string x.d)] = eE (sub1 t x) by rw [frzI, hf])
        · rename_i q3
          rw [if_neg (of_decide_eq_false q3)] at hcs
          conv => whnf
          rw [hwi]
          refine ⟨_, _, _, _, rfl, rfl, ⟨i + 1, rfl, by omega, by rw [hcs]; rfl, ?_, ?_⟩, by omega⟩
          · rw [htl]; rfl
          · rw [take_snoc hx, List.map_append, List.map_append]; exact congrArg (fun r => ((es.take i).map (sub1 t)).map eE ++ [r]) (show [PV.sl (List.take (0 + (x.r.map eI).length) (List.drop 0 ([] ++ x.r.map eI))), PV.lit (.string x.d)] = eE (sub1 t x) by rw [frzI, hf])
    · rename_i q1
      have q1p := of_decide_eq_false q1
      have ei : i = es.length := by omega
      subst ei
      have hins := addE_at h.eq (t := t) (by rw [htr, htd]; exact hR) (by rw [htr]; exact hu1)
      rw [List.take_length] at htl hcnt ⊢
      have hm2 : (addE es t).length = es.length + 1 := by
        have := congrArg List.length hins
        rw [insAt_len (by rw [htl]; omega), htl, List.length_map] at this
        omega
      conv => whnf
      refine ⟨⟨by rw [hum]; omega, trivial, trivial⟩, ?_⟩
      conv => whnf
      refine .eat _ _ _ Tryz.call73 (good_ins ((es.map (sub1 t)).map eE) [PV.sl (List.take u.length (List.drop 0 (u.map eI))), PV.lit (.string e)] es.length (cntL t es) htl.symm (by omega) (by omega)) rfl ?_
      conv => whnf
      have hins2 : insAt ((es.map (sub1 t)).map eE) (cntL t es) [PV.sl (List.take u.length (List.drop 0 (u.map eI))), PV.lit (.string e)] = (addE es t).map eE := by rw [← hins, takeI, ht]
      obtain ⟨AE, hAE⟩ : ∃ AE, AE = (addE es t).map eE := ⟨_, rfl⟩
      have hAEl : AE.length = es.length + 1 := by rw [hAE, List.length_map, hm2]
      have hAE2 : ∀ x ∈ AE, x.length = 2 := hAE ▸ eE_len _
      rw [hins2, ← hAE]
      have htk : List.take (es.length + 1) (List.drop 0 AE) = AE := by rw [List.drop_zero, List.take_of_length_le (by omega)]
      rw [htk]
      refine ⟨⟨rfl, rfl, rfl⟩, by omega, ?_⟩
      conv => whnf
      refine ⟨(fun q => by cases q), appE (show 0 + AE.length ≤ _ by omega), hAE2, ?_⟩
      conv => whnf
      refine ⟨⟨⟨by decide +kernel, Nat.le_of_ble_eq_true rfl⟩, trivial⟩, ?_⟩
      conv => whnf
      refine ⟨?_, ?_⟩
      · show _ = AV.tup [.agg [.p (.lit (.int .i64 c)), .p (.lit (.int .i64 z)), .hs 0 0 (addE es t).length], vint 0]
        rw [show (addE es t).length = 0 + AE.length by omega]; rfl
      · refine congrArg (fun E => [Blk.arr 2 E]) ?_
        rw [hAE]; rfl
theorem implAdd_ok (c z : Int) (es : List Eqn) (hB : SBd c z es) (h : SOk c z es) (r : List Int) (d : ByteArray) (hr : RowP c r) (hd : d.size = z.toNat) (q : List Int × ByteArray) (hq : q = red es (r, d)) (A : List Eqn × Int) (hA : A = addR es q z.toNat) :
    Good Tryz.prog 30 [solF c z es, .one (.p (slI r)), vstr d] [] (.tup [solF c z A.1, vint A.2]) [] := by
  obtain ⟨v, out, hL, hg⟩ := implAdd_own c z es hB h r d hr hd q hq A hA
  cases hL with
  | old => exact hg
  | new => exact good_frz hg (.tup (.cons (.agg (.cons .p (.cons .p (.cons (.sl rfl (List.length_map ..).symm (Nat.zero_le _)) .nil)))) (.cons (.one .p) .nil))) rfl (fun _ h => by cases h)
end Go.Abs.F

set_option linter.unusedSimpArgs false
set_option linter.unusedVariables false
namespace Go.Abs.F
open Go Go.Abs Go.Proofs Go.RowKit
open Go.Sort
theorem put_get (d : Array Int) (c : Array Value) (k : Nat) : (putCells (Value.int .i64) 0 d c)[k]? = (c[k]?).map fun x => if k < d.size then Value.int .i64 d[k]! else x := by
  unfold putCells
  rw [Array.getElem?_mapIdx]
  congr 1
  funext x
  have : (0 ≤ k ∧ k < 0 + d.size) ↔ k < d.size := by omega
  simp only [this, Nat.sub_zero]
theorem put_size (d : Array Int) (c : Array Value) : (putCells (Value.int .i64) 0 d c).size = c.size := by unfold putCells; rw [Array.size_mapIdx]
theorem bang_list (l : List Int) (k : Nat) (h : k < l.length) : l.toArray[k]! = l[k] := by
  rw [getElem!_pos l.toArray k (by simpa using h)]; simp
theorem holds_int {w : World} {S : Kx → Prop} {σ : Nat → Loc} {b : Nat} {zs : List Int} (h : BlkRep w S σ b (.arr 1 (zs.map eI))) : Go.Sort.Holds (Value.int .i64) w (σ b).k 0 zs.toArray := by
  obtain ⟨c, ty, fr, h1, h0, h2, h3, h4, h5, h6⟩ := h
  intro j hj
  have hj' : j < zs.length := by simpa using hj
  rw [List.length_map] at h5
  have hjc : j < c.size := by rw [h2, h4]; omega
  rw [Nat.zero_add, World.cell_of h1, World.frozen_of h1, bang_list zs j hj']
  refine ⟨?_, h0 j (.inl hjc)⟩
  obtain ⟨_, q⟩ := h6 j (eI zs[j]) (by rw [List.getElem?_map, List.getElem?_eq_getElem hj']; rfl)
  obtain ⟨v, q1, q2⟩ := q 0 _ rfl
  rw [h4, Nat.mul_one, Nat.add_zero] at q1
  rw [q1]; cases q2; rfl
theorem row_after {w w' : World} {S : Kx → Prop} {σ : Nat → Loc} {b : Nat} {zs ys : List Int} {m : Nat} (h : BlkRep w S σ b (.arr 1 (zs.map eI))) (hl : ys.length = zs.length) (hm : m ≤ ys.length)
    (hw : ∀ c ty fr, w.heap[(σ b).k]? = some (.cells c ty fr) → w'.heap[(σ b).k]? = some (.cells (putCells (Value.int .i64) 0 ys.toArray c) ty fr)) : BlkRep w' S σ b (.arr 1 ((ys.take m).map eI)) := by
  obtain ⟨c, ty, fr, h1, h0, h2, h3, h4, h5, h6⟩ := h
  rw [List.length_map] at h5
  have hc : c.size = (σ b).cap := by rw [h2, h4]; omega
  refine ⟨_, ty, fr, hw c ty fr h1, by rw [put_size]; exact h0, by rw [put_size]; exact h2, fun v hv => ?_, h4, by rw [List.length_map, List.length_take]; omega, fun i el hi => ?_⟩
  · obtain ⟨k, hk⟩ := Array.mem_iff_getElem?.1 hv
    rw [put_get] at hk
    obtain ⟨x, hx, rfl⟩ := Option.map_eq_some_iff.1 hk
    split
    · rfl
    · exact h3 x (Array.mem_of_getElem? hx)
  · obtain ⟨q, hq⟩ := List.getElem?_eq_some_iff.1 hi
    rw [List.length_map, List.length_take] at q
    have hil : i < ys.length := by omega
    have he : el = eI ys[i] := by rw [← hq]; simp
    subst he
    refine ⟨h4.symm, fun j x hj => ?_⟩
    rcases j with _ | j
    · cases hj
      refine ⟨.int .i64 ys[i], ?_, .lit _⟩
      rw [h4, Nat.mul_one, Nat.add_zero, put_get, Array.getElem?_eq_getElem (show i < c.size by omega), Option.map_some, if_pos (by simpa using hil), bang_list ys i hil]
    · simp at hj
theorem heap_put (w : World) (k : Nat) (d : Array Int) (j : Nat) : (putRow (Value.int .i64) w k 0 d).heap[j]? = if k = j then (w.heap[j]?).map (onCells (putCells (Value.int .i64) 0 d)) else w.heap[j]? := by
  unfold putRow mapBlock
  rw [Array.getElem?_modify]
theorem good_sort (zs : List Int) (n : Nat) (hn : n = zs.length) (hb : n ≤ 1100000) :
    Good Tryz.prog 109 [.one (.hs 0 0 n)] [.arr 1 (zs.map eI)] (.tup []) [.arr 1 ((zs.mergeSort fun x y => decide (x ≤ y)).map eI)] := by
  intro w vs σ S hl hr hin hlent hap hS hG hF
  rcases vs with ⟨l⟩
  rcases l with _ | ⟨v0, _ | ⟨v1, l⟩⟩
  · cases hl
  · have h0 := hr 0 _ v0 rfl rfl
    obtain ⟨hB, _, hnS⟩ := hlent 0 _ rfl
    have hB' := hB
    obtain ⟨cur, ty, fr, g1, g0, g2, g3, g6, g4, g5⟩ := hB'
    have fin : ∀ (w' : World), (∀ c ty fr, w.heap[(σ 0).k]? = some (.cells c ty fr) → w'.heap[(σ 0).k]? = some (.cells (putCells (Value.int .i64) 0 (zs.mergeSort fun x y => decide (x ≤ y)).toArray c) ty fr)) →
        (∀ k, k < w.heap.size → k ≠ (σ 0).k → w'.heap[k]? = w.heap[k]?) → w.heap.size ≤ w'.heap.size → w'.os = w.os → w'.tape = w.tape → w'.output = w.output → PostO false w 1 σ S (.tup []) [.arr 1 ((zs.mergeSort fun x y => decide (x ≤ y)).map eI)] (.tuple #[]) w' := by
      intro w' q1 q2 q3 q4 q5 q6
      refine ⟨σ, S, .tup _ _ rfl (fun i a v h => by simp at h), .tup (fun v hv => by cases hv), Nat.le_refl _, ?_, fun b b' q1 q2 q3 => by simp at q1 q2; omega, fun b q => rfl, fun b q1 q2 => absurd q2 (by simp only [List.length_cons, List.length_nil]; omega), fun k hk => Nat.lt_of_lt_of_le (hS k hk) q3, fun k hk _ => hk, q4, q5, q6, q3, fun k hk hne => q2 k hk fun q => hne 0 Nat.zero_lt_one q.symm, hF.ok, fun _ => hF⟩
      intro b blk hb
      have hb0 : b = 0 := by
        rcases b with _ | b
        · rfl
        · simp at hb
      subst hb0
      cases hb
      have hl2 : (zs.mergeSort fun x y => decide (x ≤ y)).length = zs.length := List.length_mergeSort _
      have := row_after hB hl2 (Nat.le_refl _) q1
      rw [List.take_length] at this
      exact ⟨this, trivial, hnS⟩
    cases h0 with | one h0 =>
    cases h0 with
    | hs0 _ _ a =>
      have hz : zs = [] := List.eq_nil_of_length_eq_zero hn.symm
      refine Calls.mono (Tryz.slices_Sort_int_none a 0 w) ?_
      rintro e w' ⟨rfl, rfl⟩
      refine ⟨_, rfl, fin _ (fun c ty fr h => ?_) (fun _ _ _ => rfl) (Nat.le_refl _) rfl rfl rfl⟩
      subst hz
      rw [h]
      refine congrArg (fun c => some (Obj.cells c ty fr)) ?_
      refine Array.ext_getElem? fun k => ?_
      rw [put_get]
      have : ¬ k < ([].mergeSort fun x y => decide ((x : Int) ≤ y)).toArray.size := by simp
      simp only [this, if_false]
      cases c[k]? <;> rfl
    | hs _ _ _ cap hc hnc =>
    rw [Nat.zero_mul]
    subst hn
    refine Calls.mono (Tryz.slices_Sort_int (σ 0).k 0 cap zs w (holds_int hB) (Array.getElem?_eq_some_iff.1 g1).1 (by omega)) ?_
    rintro e w' ⟨rfl, q, os, rfl⟩
    have hlt : (σ 0).k < w.heap.size := (Array.getElem?_eq_some_iff.1 g1).1
    have hh : ∀ k, k < w.heap.size → (grow (putRow (Value.int .i64) (Go.Sort.ahead w q) (σ 0).k 0 (zs.mergeSort fun x y => decide (x ≤ y)).toArray) os).heap[k]? = (putRow (Value.int .i64) (Go.Sort.ahead w q) (σ 0).k 0 (zs.mergeSort fun x y => decide (x ≤ y)).toArray).heap[k]? := fun k hk => by
      unfold grow
      exact Array.getElem?_append_left (by show k < (Array.modify _ _ _).size; rw [Array.size_modify]; exact hk)
    refine ⟨_, rfl, fin _ (fun c ty fr h => ?_) (fun k hk hne => ?_) ?_ rfl rfl rfl⟩
    · rw [hh _ hlt, heap_put, if_pos rfl]
      show (w.heap[(σ 0).k]?).map _ = _
      rw [h]; rfl
    · rw [hh _ hk, heap_put, if_neg (fun e => hne e.symm)]; rfl
    · rw [size_grow]
      show w.heap.size ≤ (Array.modify _ _ _).size + _
      rw [Array.size_modify]; exact Nat.le_add_right _ _
  · cases hl
end Go.Abs.F

set_option linter.unusedSimpArgs false
set_option linter.unusedVariables false
namespace Go.Abs.F
open Go Go.Abs Go.Proofs Go.RowKit
section
variable {P : Program} {ops : Array Oper} {o : Oper} {a : Act} {Q : Exit → Act → World → Prop} {Kc : Act → World → Prop} {W : World}
theorem app_step (hw : Region.wanted o (yielded ops a.tmps) = true) (s x : Operand) (t : TypeId) (ho : o.op = .call { callee := .builtin .append, args := #[s, x], argTypes := #[t, t] })
    {vs vx r : Value} {W1 : World} (hs : a.eval s = vs) (hx : a.eval x = vx) (hr : ∀ ty, (Builtin.append_ #[t, t] ty #[vs, vx]).run P W = .ok r W1) (h : Kc (a.put o.dst r) W1) :
    if Region.wanted o (yielded ops a.tmps) = true then Oper.wp P o a W Kc Q else Kc (a.put o.dst undef) W := by
  rw [if_pos hw]
  unfold Oper.wp execOp
  simp only [ho, resolve, invoke, builtin, Sem.run_bind, Sem.run_pure, Result.andThen_ok, List.map_toArray, List.map_cons, List.map_nil, hs, hx, hr]
  exact h
end
/-- The cells behind element i of a row, moved down by one element. -/
def newsOf (cur : Array Value) (n i : Nat) : List Value := (cur.toList.drop ((i + 1))).take ((n - (i + 1)))
theorem newsOf_len {cur : Array Value} {n i : Nat} (h : n ≤ cur.size) (hi : i < n) : (newsOf cur n i).length = (n - (i + 1)) := by
  unfold newsOf
  rw [List.length_take, List.length_drop, Array.length_toList]
  omega
theorem newsOf_get {cur : Array Value} {n i q : Nat} (h : n ≤ cur.size) (hq : q < (n - (i + 1))) : (newsOf cur n i)[q]? = cur[(i + 1) + q]? := by
  unfold newsOf
  rw [List.getElem?_take, if_pos hq, List.getElem?_drop, Array.getElem?_toList]
theorem app_run (P : Program) (t e : TypeId) (inf : TypeInfo) (ht : P.underlying t = some (.slice e)) (hi : P.info? e = some inf) (hsz : inf.size = 1) (g n c c2 i : Nat) (bt : TypeId) (fr : Nat × Nat) (cur : Array Value) (W : World)
    (hh : W.heap[g]? = some (.cells cur bt fr)) (hfz : ∀ o, o < cur.size → (fr.1 ≤ o && o < fr.2) = false) (hs : n ≤ cur.size) (hone : ∀ v ∈ cur, v.oneCell' = true) (hin : i < n) (hnc : n ≤ c) (ty : TypeId) :
    (Builtin.append_ #[t, t] ty #[.slice (some ⟨g, 0, none⟩) i c, .slice (if c = i + 1 then some ⟨g, 0, none⟩ else some ⟨g, (i + 1), none⟩) (n - (i + 1)) c2]).run P W = .ok (.slice (some ⟨g, 0, none⟩) (n - 1) c) (W.setCells g (i) (newsOf cur n i)) := by
  have hl := newsOf_len hs hin
  obtain ⟨ad, ead, hcell⟩ : ∃ ad, (if c = i + 1 then some ⟨g, 0, none⟩ else some ⟨g, (i + 1), none⟩ : Option Addr) = some ad ∧ ∀ j u, (newsOf cur n i)[j]? = some u → W.cell? (ad.add j) = some u := by
    by_cases hck : c = i + 1
    · rw [if_pos hck]
      refine ⟨_, rfl, fun j u hu => ?_⟩
      have h0 : newsOf cur n i = [] := List.eq_nil_of_length_eq_zero (by rw [hl]; omega)
      rw [h0] at hu; simp at hu
    · rw [if_neg hck]
      refine ⟨_, rfl, fun j u hu => ?_⟩
      have hj : j < (newsOf cur n i).length := (List.getElem?_eq_some_iff.1 hu).1
      rw [newsOf_get hs (by omega)] at hu
      rw [Addr.add_lit, World.cell_of hh]
      exact hu
  rw [ead]
  have hrun := run_append_room_cells (P := P) W t ty e inf ht hi g 0 i c ad (n - (i + 1)) c2 (newsOf cur n i) (by rw [hl, hsz, Nat.mul_one]) hcell
    (fun u hu => by
      obtain ⟨q, hq⟩ := List.mem_iff_getElem?.1 hu
      have hj : q < (newsOf cur n i).length := (List.getElem?_eq_some_iff.1 hq).1
      rw [newsOf_get hs (by omega)] at hq
      exact hone u (Array.mem_of_getElem? hq)) (by omega)
    (fun j hj => by rw [hsz, Nat.mul_one, World.cell_of hh, Array.getElem?_eq_getElem (by omega)]; rfl) (fun j hj => by rw [hsz, Nat.mul_one, World.frozen_of hh]; exact hfz _ (by omega))
  rw [hsz, Nat.zero_add, Nat.mul_one, show i + (n - (i + 1)) = n - 1 by omega] at hrun
  exact hrun
theorem one1 : ∀ v ∈ ([.int .i64 0] : List Value), v.oneCell' = true := by intro v hv; simp at hv; subst hv; rfl
set_option maxHeartbeats 4000000 in
set_option maxRecDepth 1100000 in
theorem del_raw1 (g n c i : Nat) (bt : TypeId) (fr : Nat × Nat) (cur : Array Value) (w : World)
    (hh : w.heap[g]? = some (.cells cur bt fr)) (hfz : ∀ o, o < cur.size → (fr.1 ≤ o && o < fr.2) = false) (hs : n ≤ cur.size) (hone : ∀ v ∈ cur, v.oneCell' = true) (hi : i < n) (hnc : n ≤ c) (hmax : n ≤ 9223372036854775000) :
    Calls Tryz.prog 108 #[.slice (some ⟨g, 0, none⟩) n c, .int .i64 i, .int .i64 ((i + 1 : Nat) : Int)] w fun e w' => e = .returned (.slice (some ⟨g, 0, none⟩) (n - 1) c) ∧
      ∃ (w0 : World) (zs : List Value), w0.heap = w.heap ∧ w0.os = w.os ∧ w0.tape = w.tape ∧ w0.output = w.output ∧ zs.length = 1 ∧ (∀ v ∈ zs, v.oneCell' = true) ∧ w' = (w0.setCells g (i) (newsOf cur n i)).setCells g ((n - 1)) zs := by
  have hu27 := Tryz.underlying23
  have mixed : Tryz.prog.follows .mixedOrders = true := by kernel_rfl
  have hi36 : (Tryz.prog.info? 3).map (·.size) = some 1 := by kernel_rfl
  obtain ⟨inf, hinf, hsz⟩ := Option.map_eq_some_iff.1 hi36
  have happ : ∀ (W : World), W.heap = w.heap → ∀ (j c2 : Nat), j = i + 1 → ∀ ty, (Builtin.append_ #[23, 23] ty #[.slice (some ⟨g, 0, none⟩) i c, .slice (if c = j then some ⟨g, 0, none⟩ else some ⟨g, j, none⟩) (n - j) c2]).run Tryz.prog W = .ok (.slice (some ⟨g, 0, none⟩) (n - 1) c) (W.setCells g (i) (newsOf cur n i)) := by
    rintro W hW j c2 rfl ty
    exact app_run Tryz.prog 23 3 inf hu27 hinf hsz g n c c2 i bt fr cur W (by rw [hW]; exact hh) hfz hs hone hi hnc ty
  have hcl : ∀ (W : World), W.heap = w.heap → ∀ ty c3, (Builtin.clear_ #[23] ty #[.slice (some ⟨g, (n - 1), none⟩) (n - (n - 1)) c3]).run Tryz.prog (W.setCells g (i) (newsOf cur n i)) = .ok (.tuple #[]) ((W.setCells g (i) (newsOf cur n i)).setCells g ((n - 1)) [.int .i64 0]) := by
    intro W hW ty c3
    have e1 : n - (n - 1) = 1 := by omega
    have hblk := setCells_heap g bt fr (newsOf cur n i) (i) cur W (by rw [hW]; exact hh)
    have hsp : (spl cur (i) (newsOf cur n i)).size = cur.size := spl_size ..
    have hst := run_storeCells_cells (P := Tryz.prog) g ((n - 1)) [.int .i64 0] 0 (W.setCells g (i) (newsOf cur n i)) (by
      intro j hj
      have hj' : j < 1 := by simpa using hj
      rw [World.cell_of hblk, Array.getElem?_eq_getElem (by omega)]
      rfl) (by intro j hj; have hj' : j < 1 := by simpa using hj
               rw [World.frozen_of hblk]; exact hfz _ (by omega)) (by intro v hv; simp at hv; subst hv; rfl)
    rw [Nat.add_zero] at hst
    rw [e1]
    have hz : ∀ w, (zeroValue 3).run Tryz.prog w = .ok (.int .i64 0) w := fun w => by kernel_rfl
    have hzc : (Builtin.zeroCells (Value.int .i64 0).cells 1).toList = [.int .i64 0] := by
      simp only [Builtin.zeroCells, Value.cells, Array.toList_map, Array.toList_range]
      rfl
    simp [Builtin.clear_, run_underlying hu27, hz, hzc, hst]
  obtain ⟨j, hj⟩ : ∃ j : Nat, j = i + 1 := ⟨_, rfl⟩
  have hne : ¬ i = j := by omega
  have hij : i ≤ j := by omega
  have hjn : j ≤ n := by omega
  have hic : i ≤ c := by omega
  have hjc : j ≤ c := by omega
  have HJ := Keep0.mk hj
  have HA := Keep0.mk happ
  have HC := Keep0.mk hcl
  rw [← hj]
  have HN := Keep0.mk hnc
  clear hj hs hone hfz hh hi happ hcl
  go_enter Tryz.func108, Tryz.ntmps108
  go_wp2_with fail
  go_region_law_o (refine app_step (vs := .slice (some ⟨g, 0, none⟩) i c) (vx := .slice (if c = j then some ⟨g, 0, none⟩ else some ⟨g, j, none⟩) (n - j) (c - j)) (by rfl) (.tmp 22) (.tmp 25) 23 rfl (by simp [Act.eval, Act.put]) (by simp [Act.eval, Act.put]) (HA.out (World.drew w) rfl j (c - j) HJ.out) ?_)
  have hn1 : n - 1 ≤ n := by omega
  have hn2 : n - 1 ≤ c := by omega
  have HW : ∀ ty c3, (Builtin.clear_ #[23] ty #[.slice (some ⟨g, (n - 1), none⟩) (n - (n - 1)) c3]).run Tryz.prog (w.drew.setCells g (i) (newsOf cur n i)) = .ok (.tuple #[]) ((w.drew.setCells g (i) (newsOf cur n i)).setCells g ((n - 1)) [.int .i64 0]) := HC.out w.drew rfl
  clear HC HA hi36 hinf hsz
  go_wp2
  all_goals
    go_ret
    exact ⟨rfl, w.drew, rfl, rfl, rfl, rfl, [.int .i64 0], rfl, one1, rfl⟩
set_option maxHeartbeats 16000000 in
set_option maxRecDepth 100000 in
theorem good_del1 (els : List (List PV)) (n i : Nat) (hn : n = els.length) (hi : i < n) (hb : n ≤ 1100000) :
    Good Tryz.prog 108 [.one (.hs 0 0 n), vint i, vint ((i + 1 : Nat) : Int)] [.arr 1 els] (.one (.hs 0 0 (n - 1))) [.arr 1 (els.eraseIdx i)] := by
  intro w vs σ S hl hr hin hlent hap hS hG hF
  rcases vs with ⟨l⟩
  rcases l with _ | ⟨v0, _ | ⟨v1, _ | ⟨v2, _ | ⟨v3, l⟩⟩⟩⟩
  · cases hl
  · cases hl
  · cases hl
  · have h0 := hr 0 _ v0 rfl rfl
    have h1 := lit_inv (hr 1 _ v1 rfl rfl) rfl
    have h2 := lit_inv (hr 2 _ v2 rfl rfl) rfl
    subst h1 h2
    obtain ⟨⟨cur, ty, fr, g1, g0, g2, g3, g6, g4, g5⟩, _, hnS⟩ := hlent 0 _ rfl
    cases h0 with | one h0 =>
    cases h0 with
    | hs0 => omega
    | hs _ _ _ cap hc hnc =>
    have hcap : n ≤ cur.size := by rw [g2, g6]; omega
    rw [Nat.zero_mul]
    refine Calls.mono (del_raw1 (σ 0).k n cap i ty fr cur w g1 (fun o ho => g0 o (.inl ho)) hcap g3 hi hnc (by omega)) ?_
    rintro e w' ⟨rfl, w0, zs, e1, e2, e3, e4, hz4, hz1, rfl⟩
    have hln := newsOf_len hcap hi
    have b1 := setCells_heap (σ 0).k ty fr (newsOf cur n i) (i) cur w0 (by rw [e1]; exact g1)
    have s1 : (spl cur (i) (newsOf cur n i)).size = cur.size := spl_size ..
    have b2 := setCells_heap (σ 0).k ty fr zs ((n - 1)) _ _ b1
    have hother : ∀ k, k ≠ (σ 0).k → ((w0.setCells (σ 0).k (i) (newsOf cur n i)).setCells (σ 0).k ((n - 1)) zs).heap[k]? = w.heap[k]? := fun k hk => by
      rw [setCells_other _ _ _ _ _ hk, setCells_other _ _ _ _ _ hk, e1]
    have hsize : ((w0.setCells (σ 0).k (i) (newsOf cur n i)).setCells (σ 0).k ((n - 1)) zs).heap.size = w.heap.size := by
      rw [setCells_size, setCells_size, e1]
    have o1 := setCells_os (σ 0).k (newsOf cur n i) (i) w0
    have o2 := setCells_os (σ 0).k zs ((n - 1)) (w0.setCells (σ 0).k (i) (newsOf cur n i))
    have hfit1 : i + (newsOf cur n i).length ≤ cur.size := by omega
    have hfit2 : (n - 1) + zs.length ≤ (spl cur (i) (newsOf cur n i)).size := by omega
    refine ⟨_, rfl, σ, S, .one ?_, .one (Nat.zero_lt_one), Nat.le_refl _, ?_, fun b b' q1 q2 q3 => by simp at q1 q2; omega, fun b q => rfl, fun b q1 q2 => absurd q2 (by simp only [List.length_cons, List.length_nil] at q1 ⊢; omega), fun k hk => hsize ▸ hS k hk, fun k hk _ => hk, (o2.1.trans o1.1).trans e2, (o2.2.1.trans o1.2.1).trans e3, (o2.2.2.trans o1.2.2).trans e4, Nat.le_of_eq hsize.symm, fun k hk hne => hother k fun q => hne 0 Nat.zero_lt_one q.symm, hF.ok, fun _ => hF⟩
    · have := RepC.hs (w := ((w0.setCells (σ 0).k (i) (newsOf cur n i)).setCells (σ 0).k ((n - 1)) zs)) (S := S) (σ := σ) 0 0 (n - 1) cap hc (by omega)
      rwa [Nat.zero_mul] at this
    · intro b blk hb
      have hb0 : b = 0 := by
        rcases b with _ | b
        · rfl
        · simp at hb
      subst hb0
      cases hb
      refine ⟨⟨_, ty, fr, b2, fun o ho => ?_, ?_, fun v hv => ?_, g6, ?_, fun m el hm => ?_⟩, trivial, hnS⟩
      · rw [spl_size, s1] at ho; exact g0 o ho
      · rw [spl_size, s1]; exact g2
      · obtain ⟨m, hm⟩ := Array.mem_iff_getElem?.1 hv
        rw [spl_get _ _ _ _ hfit2] at hm
        split at hm
        · exact hz1 v (List.mem_of_getElem? hm)
        · rw [spl_get _ _ _ _ hfit1] at hm
          split at hm
          · rename_i q
            rw [newsOf_get hcap (by omega)] at hm
            exact g3 v (Array.mem_of_getElem? hm)
          · exact g3 v (Array.mem_of_getElem? hm)
      · rw [List.length_eraseIdx_of_lt (by omega)]; omega
      · have hml : m < n - 1 := by
          have := (List.getElem?_eq_some_iff.1 hm).1
          rw [List.length_eraseIdx_of_lt (by omega)] at this
          omega
        rw [List.getElem?_eraseIdx] at hm
        by_cases hmi : m < i
        · rw [if_pos hmi] at hm
          refine ⟨(g5 m el hm).1, fun j x hx => ?_⟩
          obtain ⟨v, q1, q2⟩ := (g5 m el hm).2 j x hx
          have hj : j < 1 := by have := (List.getElem?_eq_some_iff.1 hx).1; rw [(g5 m el hm).1, g6] at this; exact this
          rw [g6] at q1 ⊢
          refine ⟨v, ?_, q2.mono (fun k hk => hother k.b (hnS k hk)) (fun _ q => q)⟩
          rw [spl_get _ _ _ _ hfit2, if_neg (by omega), spl_get _ _ _ _ hfit1, if_neg (by omega)]
          exact q1
        · rw [if_neg hmi] at hm
          refine ⟨(g5 (m + 1) el hm).1, fun j x hx => ?_⟩
          obtain ⟨v, q1, q2⟩ := (g5 (m + 1) el hm).2 j x hx
          have hj : j < 1 := by have := (List.getElem?_eq_some_iff.1 hx).1; rw [(g5 (m + 1) el hm).1, g6] at this; exact this
          rw [g6] at q1 ⊢
          refine ⟨v, ?_, q2.mono (fun k hk => hother k.b (hnS k hk)) (fun _ q => q)⟩
          rw [spl_get _ _ _ _ hfit2, if_neg (by omega), spl_get _ _ _ _ hfit1, if_pos (by omega), newsOf_get hcap (by omega), show (i + 1) + (m * 1 + j - i) = (m + 1) * 1 + j by omega]
          exact q1
  · cases hl
theorem good_delI (zs : List Int) (n i : Nat) (hn : n = zs.length) (hi : i < n) (hb : n ≤ 1100000) (j : Int) (hj : j = ((i + 1 : Nat) : Int)) :
    Good Tryz.prog 108 [.one (.hs 0 0 n), vint i, vint j] [.arr 1 (zs.map eI)] (.one (.hs 0 0 (n - 1))) [.arr 1 ((zs.eraseIdx i).map eI)] := by
  subst hj
  have h := good_del1 (zs.map eI) n i (by rw [List.length_map]; exact hn) hi hb
  rwa [show (zs.map eI).eraseIdx i = (zs.eraseIdx i).map eI from by rw [List.eraseIdx_eq_take_drop_succ, List.eraseIdx_eq_take_drop_succ, List.map_append, List.map_take, List.map_drop]] at h
end Go.Abs.F
