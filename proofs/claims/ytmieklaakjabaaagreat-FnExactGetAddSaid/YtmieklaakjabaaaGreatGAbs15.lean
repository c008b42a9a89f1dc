import Derived.Test.YtmieklaakjabaaaGreatGAbs14
set_option linter.unusedSimpArgs false
set_option linter.unusedVariables false
namespace Go.Abs
open Go Go.RowKit
variable {P : Program} {st : St}
/-- The state s (names below n) is, cut down and put in order, the state s0 (names below n0). -/
inductive Sub (n : Nat) (s : St) (n0 : Nat) (s0 : St) : Prop
  | mk (h : ∀ X a w, RelA X (· < n) s a w → RelA X (· < n0) s0 a w)
def dec (b : Bool) (p : Option (Nat × St)) : Option (Nat × St) := match b with
  | true => p
  | false => none
/-- As 'canon', to be reckoned. -/
def canonN (st : St) (l : List (Nat × AV)) (Ns : List Nat) : Option (Nat × St) := match rds st Ns with
      | some bs => dec (nodupB Ns && (Ns.take st.nl.n == List.range st.nl.n) && l.all (fun q => q.2.nm.all Ns.contains) && bs.all (fun k => k.nm.all Ns.contains)) (some (Ns.length, { nt := st.nt, nl := st.nl, tm := renT Ns l, bl := orderB Ns 0 bs }))
      | none => none
def canonB (st : St) (ts : List Tmp) : Option (Nat × St) := canonN st (liveT st ts) (namesOf st (liveT st ts))
theorem canonB_canon {ts : List Tmp} {q : Nat × St} (h : canonB st ts = some q) : canon st ts = some q := by
  unfold canonB canonN at h
  unfold canon
  simp only
  split at h
  · rename_i bs hbs
    rw [hbs]
    simp only
    unfold dec at h
    split at h
    · rename_i hb
      simp only [Bool.and_eq_true, beq_iff_eq] at hb
      rw [if_pos]
      · exact h
      · refine ⟨⟨nodupB_iff hb.1.1.1, hb.1.1.2⟩, fun q hq b hbm => ?_, fun k hk b hbm => ?_⟩
        · exact List.contains_iff_mem.1 (List.all_eq_true.1 (List.all_eq_true.1 hb.1.2 q hq) b hbm)
        · exact List.contains_iff_mem.1 (List.all_eq_true.1 (List.all_eq_true.1 hb.2 k hk) b hbm)
    · cases h
  · cases h
theorem Sub.canon {n n0 : Nat} {s s0 : St} (ts : List Tmp) (h : canonB s ts = some (n0, s0)) : Sub n s n0 s0 := ⟨canon_sub (canonB_canon h)⟩
theorem VLoop.sub {c : Code} {Q : Exit → Nat → St → Prop} {n n0 : Nat} {s s0 : St} (hs : Sub n s n0 s0) (h : VLoop P c Q n0 s0) : VLoop P c Q n s := ⟨ALoop.sub hs.1 h.1⟩
theorem VDraw.sub {M : FuncId → Bool} {id : Nat} {ops : Array Oper} {Q : Exit → Nat → St → Prop} {n n0 : Nat} {s s0 : St} (hs : Sub n s n0 s0) (h : VDraw P M id ops Q n0 s0) : VDraw P M id ops Q n s := ⟨AWp.sub hs.1 h.1⟩
/-- The state cut down to the slots ts, in order, drawn out: n1 names, and the state. -/
def atHead (s : St) (ts : List Tmp) (K : Nat → St → Prop) : Prop := fT (liveT s ts) fun l => fNs (namesOf s l) fun Ns => match canonN s l Ns with
  | some (n1, s1) => fT s1.tm fun tm => fBs s1.bl fun bl => K n1 ⟨s1.nt, s1.nl, tm, bl⟩
  | none => False
theorem atHead_eq {s : St} {ts : List Tmp} {K : Nat → St → Prop} : atHead s ts K ↔ match canonB s ts with
  | some (n1, s1) => fT s1.tm fun tm => fBs s1.bl fun bl => K n1 ⟨s1.nt, s1.nl, tm, bl⟩
  | none => False := by
  unfold atHead canonB; rw [fT_iff, fNs_iff]
theorem atHead_sub {n : Nat} {s : St} {ts : List Tmp} {K : Nat → St → Prop} (h : atHead s ts K) : ∃ n1 s1, Sub n s n1 s1 ∧ K n1 s1 := by
  rw [atHead_eq] at h
  split at h
  · rename_i n1 s1 hc
    rw [fT_iff, fBs_iff] at h
    exact ⟨n1, s1, .canon ts hc, h⟩
  · exact h.elim
theorem VLoop.enter (ts : List Tmp) {c : Code} {Q : Exit → Nat → St → Prop} {n : Nat} {s : St} (h : atHead s ts fun n0 s0 => VLoop P c Q n0 s0) : VLoop P c Q n s :=
  let ⟨_, _, h1, h2⟩ := atHead_sub h; VLoop.sub h1 h2
/-- A loop, by what holds at its head: i says how things stand there; m falls. -/
theorem VLoop.ind {ι : Type} (M : FuncId → Bool) (ts : List Tmp) {c : Code} {Q : Exit → Nat → St → Prop} {n0 : Nat} (S : ι → St) (I : ι → Prop) (m : ι → Nat)
    (round : ∀ i, I i → vcode P M c (andThen (fun _ s => atHead s ts fun n1 s1 => ∃ j, n1 = n0 ∧ s1 = S j ∧ I j ∧ m j < m i) Q) n0 (S i)) : ∀ i, I i → VLoop P c Q n0 (S i) := by
  have key : ∀ k i, m i = k → I i → ALoop P c Q n0 (S i) := by
    intro k
    induction k using Nat.strongRecOn with
    | _ k ih =>
      intro i hk hi
      refine aloop_step ((vcode_sound c (round i hi)).mono (andThen_mono ?_))
      intro n s hh
      obtain ⟨n1, s1, hs, j, rfl, rfl, hj, hlt⟩ := atHead_sub hh
      exact ALoop.sub hs.1 (ih (m j) (hk ▸ hlt) j rfl hj)
  exact fun i hi => ⟨key _ i rfl hi⟩
theorem atHead_mono {s : St} {ts : List Tmp} {K K' : Nat → St → Prop} (hk : ∀ n s, K n s → K' n s) (h : atHead s ts K) : atHead s ts K' := by
  rw [atHead_eq] at h ⊢
  split at h
  · rename_i n1 s1 hc
    rw [fT_iff, fBs_iff] at h ⊢
    exact hk _ _ h
  · exact h.elim
theorem VLoop.indA {ι : Type} (ts : List Tmp) {c : Code} {Q : Exit → Nat → St → Prop} {n0 : Nat} (S : ι → St) (I : ι → Prop) (m : ι → Nat)
    (round : ∀ i, I i → AWp P c (andThen (fun _ s => atHead s ts fun n1 s1 => ∃ j, n1 = n0 ∧ s1 = S j ∧ I j ∧ m j < m i) Q) n0 (S i)) : ∀ i, I i → VLoop P c Q n0 (S i) := by
  have key : ∀ k i, m i = k → I i → ALoop P c Q n0 (S i) := by
    intro k
    induction k using Nat.strongRecOn with
    | _ k ih =>
      intro i hk hi
      refine aloop_step ((round i hi).mono (andThen_mono ?_))
      intro n s hh
      obtain ⟨n1, s1, hs, j, rfl, rfl, hj, hlt⟩ := atHead_sub hh
      exact ALoop.sub hs.1 (ih (m j) (hk ▸ hlt) j rfl hj)
  exact fun i hi => ⟨key _ i rfl hi⟩
theorem VLoop.ind1 {α : Type} (M : FuncId → Bool) (ts : List Tmp) {c : Code} {Q : Exit → Nat → St → Prop} {n0 : Nat} (S : α → St) (I : α → Prop) (m : α → Nat)
    (round : ∀ a, I a → vcode P M c (andThen (fun _ s => atHead s ts fun n1 s1 => ∃ a', n1 = n0 ∧ s1 = S a' ∧ I a' ∧ m a' < m a) Q) n0 (S a)) : ∀ a, I a → VLoop P c Q n0 (S a) := VLoop.ind M ts S I m round
theorem VLoop.ind2 {α β : Type} (M : FuncId → Bool) (ts : List Tmp) {cd : Code} {Q : Exit → Nat → St → Prop} {n0 : Nat} (S : α → β → St) (I : α → β → Prop) (m : α → β → Nat)
    (round : ∀ a b, I a b → vcode P M cd (andThen (fun _ s => atHead s ts fun n1 s1 => ∃ a' b', n1 = n0 ∧ s1 = S a' b' ∧ I a' b' ∧ m a' b' < m a b) Q) n0 (S a b)) : ∀ a b, I a b → VLoop P cd Q n0 (S a b) := by
  intro a b h
  refine VLoop.indA (ι := α × β) ts (fun q => S q.1 q.2) (fun q => I q.1 q.2) (fun q => m q.1 q.2) ?_ (a, b) h
  rintro ⟨a0, b0⟩ hi
  refine AWp.mono (vcode_sound _ (round a0 b0 hi)) (andThen_mono ?_)
  intro n s hh
  refine atHead_mono ?_ hh
  rintro n1 s1 ⟨a1, b1, h1, h2, h3, h4⟩
  exact ⟨(a1, b1), h1, h2, h3, h4⟩
theorem VLoop.ind3 {α β γ : Type} (M : FuncId → Bool) (ts : List Tmp) {cd : Code} {Q : Exit → Nat → St → Prop} {n0 : Nat} (S : α → β → γ → St) (I : α → β → γ → Prop) (m : α → β → γ → Nat)
    (round : ∀ a b c, I a b c → vcode P M cd (andThen (fun _ s => atHead s ts fun n1 s1 => ∃ a' b' c', n1 = n0 ∧ s1 = S a' b' c' ∧ I a' b' c' ∧ m a' b' c' < m a b c) Q) n0 (S a b c)) : ∀ a b c, I a b c → VLoop P cd Q n0 (S a b c) := by
  intro a b c h
  refine VLoop.indA (ι := α × β × γ) ts (fun q => S q.1 q.2.1 q.2.2) (fun q => I q.1 q.2.1 q.2.2) (fun q => m q.1 q.2.1 q.2.2) ?_ (a, b, c) h
  rintro ⟨a0, b0, c0⟩ hi
  refine AWp.mono (vcode_sound _ (round a0 b0 c0 hi)) (andThen_mono ?_)
  intro n s hh
  refine atHead_mono ?_ hh
  rintro n1 s1 ⟨a1, b1, c1, h1, h2, h3, h4⟩
  exact ⟨(a1, b1, c1), h1, h2, h3, h4⟩
theorem VLoop.ind4 {α β γ δ : Type} (M : FuncId → Bool) (ts : List Tmp) {cd : Code} {Q : Exit → Nat → St → Prop} {n0 : Nat} (S : α → β → γ → δ → St) (I : α → β → γ → δ → Prop) (m : α → β → γ → δ → Nat)
    (round : ∀ a b c d, I a b c d → vcode P M cd (andThen (fun _ s => atHead s ts fun n1 s1 => ∃ a' b' c' d', n1 = n0 ∧ s1 = S a' b' c' d' ∧ I a' b' c' d' ∧ m a' b' c' d' < m a b c d) Q) n0 (S a b c d)) : ∀ a b c d, I a b c d → VLoop P cd Q n0 (S a b c d) := by
  intro a b c d h
  refine VLoop.indA (ι := α × β × γ × δ) ts (fun q => S q.1 q.2.1 q.2.2.1 q.2.2.2) (fun q => I q.1 q.2.1 q.2.2.1 q.2.2.2) (fun q => m q.1 q.2.1 q.2.2.1 q.2.2.2) ?_ (a, b, c, d) h
  rintro ⟨a0, b0, c0, d0⟩ hi
  refine AWp.mono (vcode_sound _ (round a0 b0 c0 d0 hi)) (andThen_mono ?_)
  intro n s hh
  refine atHead_mono ?_ hh
  rintro n1 s1 ⟨a1, b1, c1, d1, h1, h2, h3, h4⟩
  exact ⟨(a1, b1, c1, d1), h1, h2, h3, h4⟩
theorem VLoop.ind5 {α β γ δ ε : Type} (M : FuncId → Bool) (ts : List Tmp) {cd : Code} {Q : Exit → Nat → St → Prop} {n0 : Nat} (S : α → β → γ → δ → ε → St) (I : α → β → γ → δ → ε → Prop) (m : α → β → γ → δ → ε → Nat)
    (round : ∀ a b c d e, I a b c d e → vcode P M cd (andThen (fun _ s => atHead s ts fun n1 s1 => ∃ a' b' c' d' e', n1 = n0 ∧ s1 = S a' b' c' d' e' ∧ I a' b' c' d' e' ∧ m a' b' c' d' e' < m a b c d e) Q) n0 (S a b c d e)) : ∀ a b c d e, I a b c d e → VLoop P cd Q n0 (S a b c d e) := by
  intro a b c d e h
  refine VLoop.indA (ι := α × β × γ × δ × ε) ts (fun q => S q.1 q.2.1 q.2.2.1 q.2.2.2.1 q.2.2.2.2) (fun q => I q.1 q.2.1 q.2.2.1 q.2.2.2.1 q.2.2.2.2) (fun q => m q.1 q.2.1 q.2.2.1 q.2.2.2.1 q.2.2.2.2) ?_ (a, b, c, d, e) h
  rintro ⟨a0, b0, c0, d0, e0⟩ hi
  refine AWp.mono (vcode_sound _ (round a0 b0 c0 d0 e0 hi)) (andThen_mono ?_)
  intro n s hh
  refine atHead_mono ?_ hh
  rintro n1 s1 ⟨a1, b1, c1, d1, e1, h1, h2, h3, h4⟩
  exact ⟨(a1, b1, c1, d1, e1), h1, h2, h3, h4⟩
theorem VLoop.ind6 {α β γ δ ε ζ : Type} (M : FuncId → Bool) (ts : List Tmp) {cd : Code} {Q : Exit → Nat → St → Prop} {n0 : Nat} (S : α → β → γ → δ → ε → ζ → St) (I : α → β → γ → δ → ε → ζ → Prop) (m : α → β → γ → δ → ε → ζ → Nat)
    (round : ∀ a b c d e f, I a b c d e f → vcode P M cd (andThen (fun _ s => atHead s ts fun n1 s1 => ∃ a' b' c' d' e' f', n1 = n0 ∧ s1 = S a' b' c' d' e' f' ∧ I a' b' c' d' e' f' ∧ m a' b' c' d' e' f' < m a b c d e f) Q) n0 (S a b c d e f)) : ∀ a b c d e f, I a b c d e f → VLoop P cd Q n0 (S a b c d e f) := by
  intro a b c d e f h
  refine VLoop.indA (ι := α × β × γ × δ × ε × ζ) ts (fun q => S q.1 q.2.1 q.2.2.1 q.2.2.2.1 q.2.2.2.2.1 q.2.2.2.2.2) (fun q => I q.1 q.2.1 q.2.2.1 q.2.2.2.1 q.2.2.2.2.1 q.2.2.2.2.2) (fun q => m q.1 q.2.1 q.2.2.1 q.2.2.2.1 q.2.2.2.2.1 q.2.2.2.2.2) ?_ (a, b, c, d, e, f) h
  rintro ⟨a0, b0, c0, d0, e0, f0⟩ hi
  refine AWp.mono (vcode_sound _ (round a0 b0 c0 d0 e0 f0 hi)) (andThen_mono ?_)
  intro n s hh
  refine atHead_mono ?_ hh
  rintro n1 s1 ⟨a1, b1, c1, d1, e1, f1, h1, h2, h3, h4⟩
  exact ⟨(a1, b1, c1, d1, e1, f1), h1, h2, h3, h4⟩
theorem VLoop.ind7 {α β γ δ ε ζ η : Type} (M : FuncId → Bool) (ts : List Tmp) {cd : Code} {Q : Exit → Nat → St → Prop} {n0 : Nat} (S : α → β → γ → δ → ε → ζ → η → St) (I : α → β → γ → δ → ε → ζ → η → Prop) (m : α → β → γ → δ → ε → ζ → η → Nat)
    (round : ∀ a b c d e f g, I a b c d e f g → vcode P M cd (andThen (fun _ s => atHead s ts fun n1 s1 => ∃ a' b' c' d' e' f' g', n1 = n0 ∧ s1 = S a' b' c' d' e' f' g' ∧ I a' b' c' d' e' f' g' ∧ m a' b' c' d' e' f' g' < m a b c d e f g) Q) n0 (S a b c d e f g)) : ∀ a b c d e f g, I a b c d e f g → VLoop P cd Q n0 (S a b c d e f g) := by
  intro a b c d e f g h
  refine VLoop.indA (ι := α × β × γ × δ × ε × ζ × η) ts (fun q => S q.1 q.2.1 q.2.2.1 q.2.2.2.1 q.2.2.2.2.1 q.2.2.2.2.2.1 q.2.2.2.2.2.2) (fun q => I q.1 q.2.1 q.2.2.1 q.2.2.2.1 q.2.2.2.2.1 q.2.2.2.2.2.1 q.2.2.2.2.2.2) (fun q => m q.1 q.2.1 q.2.2.1 q.2.2.2.1 q.2.2.2.2.1 q.2.2.2.2.2.1 q.2.2.2.2.2.2) ?_ (a, b, c, d, e, f, g) h
  rintro ⟨a0, b0, c0, d0, e0, f0, g0⟩ hi
  refine AWp.mono (vcode_sound _ (round a0 b0 c0 d0 e0 f0 g0 hi)) (andThen_mono ?_)
  intro n s hh
  refine atHead_mono ?_ hh
  rintro n1 s1 ⟨a1, b1, c1, d1, e1, f1, g1, h1, h2, h3, h4⟩
  exact ⟨(a1, b1, c1, d1, e1, f1, g1), h1, h2, h3, h4⟩
/-- The loops' bodies of a code, in the order of the text; an inner loop behind its outer one. -/
def loopsOf : Code → List Code
  | .seq a b => loopsOf a ++ loopsOf b
  | .cond _ a b => loopsOf a ++ loopsOf b
  | .block _ c => loopsOf c
  | .loop c => c :: loopsOf c
  | .scope c => loopsOf c
  | _ => []
@[reducible] def vint (n : Int) : AV := lit (.int .i64 n)
@[reducible] def vbool (b : Bool) : AV := lit (.bool b)
@[reducible] def vstr (s : ByteArray) : AV := lit (.string s)
def noM : FuncId → Bool := fun _ => false
theorem vint_c {a b : Int} (h : a = b) : vint a = vint b := h ▸ rfl
theorem vbool_c {a b : Bool} (h : a = b) : vbool a = vbool b := h ▸ rfl
theorem vstr_c {a b : ByteArray} (h : a = b) : vstr a = vstr b := h ▸ rfl
theorem getD_map {α : Type} (f : α → List PV) (l : List α) (i : Nat) (d : α) (h : i < l.length) : (l.map f).getD i [] = f (l.getD i d) := by
  simp [List.getD_eq_getElem?_getD, List.getElem?_eq_getElem h]
theorem wrap_in (n : Int) (h0 : -9223372036854775808 ≤ n) (h1 : n ≤ 9223372036854775807) : IntKind.i64.wrap n = n := by
  simp only [IntKind.wrap, IntKind.bits, IntKind.signed]
  simp
  omega
end Go.Abs
