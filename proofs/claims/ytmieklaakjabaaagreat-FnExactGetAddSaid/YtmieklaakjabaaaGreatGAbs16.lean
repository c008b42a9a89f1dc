import Derived.Test.YtmieklaakjabaaaGreatGAbs15
set_option linter.unusedSimpArgs false
set_option linter.unusedVariables false
namespace Go.Abs
open Go Go.RowKit
variable {P : Program} {s s' : St}
/-- What s tells, s' tells too. -/
structure St.Le (s s' : St) : Prop where
  nl : s'.nl = s.nl
  nt : s'.nt = s.nt
  tm : ∀ t v, lk s.tm t = some v → lk s'.tm t = some v
  rd : ∀ b k, s.rd b = some k → s'.rd b = some k
theorem ev_mono (h : s.Le s') {x : Operand} {v : AV} (he : ev s x = some v) : ev s' x = some v := by
  cases x with
  | tmp t => exact h.tm t v he
  | _ => exact he
theorem lk_app {α : Type} (k l l' : List (Nat × α)) (t : Nat) (h : ∀ v, lk l t = some v → lk l' t = some v) : ∀ v, lk (k ++ l) t = some v → lk (k ++ l') t = some v := by
  induction k with
  | nil => exact h
  | cons q k ih =>
    obtain ⟨n, x⟩ := q
    intro v hv
    simp only [List.cons_append, lk] at hv ⊢
    by_cases e : n = t
    · rw [if_pos e] at hv ⊢; exact hv
    · rw [if_neg e] at hv ⊢; exact ih v hv
theorem rd_app (k : List (Nat × Option Blk)) (b : Nat) (blk : Blk) (hrd : s.rd b = some blk → s'.rd b = some blk) (h : St.rd { s with bl := k ++ s.bl } b = some blk) : St.rd { s' with bl := k ++ s'.bl } b = some blk := by
  induction k with
  | nil => exact hrd h
  | cons q k ih =>
    obtain ⟨n, x⟩ := q
    unfold St.rd at h ih ⊢
    simp only [List.cons_append, lk] at h ⊢
    by_cases e : n = b
    · rw [if_pos e] at h ⊢; exact h
    · rw [if_neg e] at h ⊢; exact ih h
theorem St.Le.app (h : s.Le s') (k : List (Nat × Option Blk)) : St.Le { s with bl := k ++ s.bl } { s' with bl := k ++ s'.bl } :=
  ⟨h.nl, h.nt, h.tm, fun b blk hb => rd_app k b blk (h.rd b blk) hb⟩
theorem pur1_mono (h : s.Le s') {c : AC} {q : PV × List (Nat × Option Blk) × Prop} (hp : pur1 s c = some q) : pur1 s' c = some q := by
  cases c with
  | p x => exact hp
  | hs b lo n =>
    simp only [pur1] at hp ⊢
    rw [h.nl]
    cases ho : s.nl.own with
    | none =>
      rw [ho] at hp
      simp only at hp ⊢
      cases hr : s.rd b with
      | none => simp [hr] at hp
      | some k => rw [h.rd b k hr]; rw [hr] at hp; exact hp
    | some t =>
      rw [ho] at hp
      simp only at hp ⊢
      cases hl : lk s.tm t with
      | none => simp [hl] at hp
      | some v =>
        cases hr : s.rd b with
        | none => rw [hl, hr] at hp; (split at hp) <;> first | contradiction | (rename_i q; cases q) | (rename_i q _; cases q) | cases hp
        | some k => rw [h.tm t v hl, h.rd b k hr]; rw [hl, hr] at hp; exact hp
  | hp => cases hp
  | fp => cases hp
theorem purify_mono : ∀ (cs : List AC) {s s' : St} (_ : s.Le s') {q : List PV × List (Nat × Option Blk) × Prop}, purify s cs = some q → purify s' cs = some q
  | [], s, s', h, q, hp => hp
  | c :: cs, s, s', h, q, hp => by
    simp only [purify] at hp ⊢
    cases h1 : pur1 s c with
    | none => simp [h1] at hp
    | some q1 =>
      obtain ⟨x, k, p⟩ := q1
      rw [pur1_mono h h1]
      simp only [h1] at hp ⊢
      cases h2 : purify { s with bl := k ++ s.bl } cs with
      | none => simp [h2] at hp
      | some q2 =>
        rw [purify_mono cs (h.app k) h2]
        rw [h2] at hp
        exact hp
theorem ptrAt_mono (h : s.Le s') {c : AC} {q : List AC × Nat} (hp : ptrAt s c = some q) : ptrAt s' c = some q := by
  cases c with
  | hp b i j =>
    simp only [ptrAt] at hp ⊢
    cases hr : s.rd b with
    | none => simp [hr] at hp
    | some k => rw [h.rd b k hr]; rw [hr] at hp; exact hp
  | _ => exact hp
theorem evs_mono (h : s.Le s') : ∀ {xs : List Operand} {vs : List AV}, evs s xs = some vs → evs s' xs = some vs
  | [], vs, he => he
  | x :: xs, vs, he => by
    simp only [evs] at he ⊢
    cases h1 : ev s x with
    | none => simp [h1] at he
    | some v =>
      cases h2 : evs s xs with
      | none => simp [h1, h2] at he
      | some us => rw [ev_mono h h1, evs_mono h h2]; rw [h1, h2] at he; exact he
theorem bparts_mono (sz : Nat) : ∀ (ps : List (Nat × Operand)) {s s' : St} (_ : s.Le s') {els : List (List PV)} {q : List (List PV) × List (Nat × Option Blk) × Prop}, bparts s sz els ps = some q → bparts s' sz els ps = some q
  | [], s, s', h, els, q, hp => hp
  | (i, x) :: ps, s, s', h, els, q, hp => by
    simp only [bparts] at hp ⊢
    cases h1 : ev s x with
    | none => simp [h1] at hp
    | some v =>
      rw [ev_mono h h1]
      simp only [h1] at hp ⊢
      cases h2 : purify s v.cells with
      | none => simp [h2] at hp
      | some q2 =>
        obtain ⟨xs, ks, p⟩ := q2
        rw [purify_mono _ h h2]
        simp only [h2] at hp ⊢
        cases h3 : bparts { s with bl := ks ++ s.bl } sz (els.set i xs) ps with
        | none => simp [h3] at hp
        | some q3 => rw [bparts_mono sz ps (h.app ks) h3]; rw [h3] at hp; exact hp
theorem sparts_mono (fs : List (Nat × TypeId)) (h : s.Le s') : ∀ (ps : List (Nat × Operand)) {cs : List AC} {q : List AC × Prop}, sparts P s fs cs ps = some q → sparts P s' fs cs ps = some q
  | [], cs, q, hp => hp
  | (i, x) :: ps, cs, q, hp => by
    simp only [sparts] at hp ⊢
    cases h1 : ev s x with
    | none => simp [h1] at hp
    | some v =>
      cases h2 : fs[i]? with
      | none => simp [h1, h2] at hp
      | some ft =>
        obtain ⟨off, t⟩ := ft
        rw [ev_mono h h1]
        simp only [h1, h2] at hp ⊢
        cases h3 : sparts P s fs (splice cs off v.cells) ps with
        | none => simp [h3] at hp
        | some q3 => rw [sparts_mono fs h ps h3]; rw [h3] at hp; exact hp
theorem aint_mono (h : s.Le s') {o : Option Operand} {d i : Int} (hi : aint s o d = some i) : aint s' o d = some i := by
  cases o with
  | none => exact hi
  | some y =>
    simp only [aint] at hi ⊢
    cases h1 : ev s y with
    | none => simp [h1] at hi
    | some v => rw [ev_mono h h1]; rw [h1] at hi; exact hi
theorem srcEls_mono (h : s.Le s') {v : AV} {q : List (List PV) × Prop} (hp : srcEls s v = some q) : srcEls s' v = some q := by
  unfold srcEls at hp ⊢
  split at hp
  · exact hp
  · exact hp
  · exact hp
  · rename_i b lo n
    cases hr : s.rd b with
    | none => simp [hr] at hp
    | some k => simp only [h.rd b k hr]; rw [hr] at hp; exact hp
  · cases hp
theorem baseEls_mono (h : s.Le s') {sz : Nat} {v : AV} {q : List (List PV) × List (Nat × Option Blk) × Prop} (hp : baseEls s sz v = some q) : baseEls s' sz v = some q := by
  unfold baseEls at hp ⊢
  split at hp
  · exact hp
  · rename_i b lo n
    cases hr : s.rd b with
    | none => simp [hr] at hp
    | some k => simp only [h.rd b k hr, h.nl]; rw [hr] at hp; exact hp
  · cases hp
theorem aload0_mono (h : s.Le s') {t : TypeId} {y : Operand} {e : E} (he : aload0 P s t y = some e) : aload0 P s' t y = some e := by
  unfold aload0 at he ⊢
  cases h1 : ev s y with
  | none => simp [h1] at he
  | some v =>
    rw [ev_mono h h1]
    rw [h1] at he
    split at he
    · rename_i c hc
      cases hc
      try simp only
      cases h2 : ptrAt s c with
      | none => simp [h2] at he
      | some q => rw [ptrAt_mono h h2]; rw [h2] at he; exact he
    · cases he
theorem aload_mono (h : s.Le s') {t : TypeId} {y : Operand} {e : E} (he : aload P s t y = some e) : aload P s' t y = some e := by
  unfold aload at he ⊢
  split at he
  · rename_i hA
    unfold aloadA at he ⊢
    cases h1 : ev s y with
    | none => simp [h1] at he
    | some v =>
      rw [ev_mono h h1]
      rw [h1] at he
      split at he
      · rename_i b i j q
        cases q
        try simp only
        cases h2 : s.rd b with
        | none => simp [h2] at he
        | some k => rw [h.rd b k h2]; rw [h2] at he; exact he
      · cases he
  · exact aload0_mono h he
theorem astore0_mono (h : s.Le s') {t : TypeId} {y z : Operand} {e : E} (he : astore0 P s t y z = some e) : astore0 P s' t y z = some e := by
  unfold astore0 at he ⊢
  cases h1 : ev s y with
  | none => simp [h1] at he
  | some v =>
    cases h2 : ev s z with
    | none => rw [h1, h2] at he; (split at he) <;> first | contradiction | (cases he; done) | (rename_i q; cases q) | (rename_i q _; cases q) | (rename_i q _ _; cases q)
    | some u =>
      rw [ev_mono h h1, ev_mono h h2]
      rw [h1, h2] at he
      split at he
      · rename_i b i j v' hv' hu'
        cases hv'; cases hu'
        try simp only
        cases h3 : s.rd b with
        | none => simp [h3] at he
        | some k =>
          rw [h.rd b k h3]
          rw [h3] at he
          cases k with
          | box cs => exact he
          | arr sz els =>
            simp only at he ⊢
            cases h4 : purify s u.cells with
            | none => simp [h4] at he
            | some q =>
              obtain ⟨xs, ks, p⟩ := q
              rw [purify_mono _ h h4]
              simp only [h4] at he ⊢
              cases h5 : St.rd { s with bl := ks ++ s.bl } b with
              | none => simp [h5] at he
              | some k2 => rw [(h.app ks).rd b k2 h5]; rw [h5] at he; exact he
      · cases he
theorem astore_mono (h : s.Le s') {t : TypeId} {y z : Operand} {e : E} (he : astore P s t y z = some e) : astore P s' t y z = some e := by
  unfold astore at he ⊢
  split at he
  · rename_i hA
    unfold astoreA at he ⊢
    cases h1 : ev s y with
    | none => simp [h1] at he
    | some v =>
      cases h2 : ev s z with
      | none => rw [h1, h2] at he; (split at he) <;> first | contradiction | (cases he; done) | (rename_i q; cases q) | (rename_i q _; cases q) | (rename_i q _ _; cases q)
      | some u =>
        rw [ev_mono h h1, ev_mono h h2]
        rw [h1, h2] at he
        split at he
        · rename_i b i j v' hv' hu'
          cases hv'; cases hu'
          try simp only
          cases h4 : purify s u.cells with
          | none => simp [h4] at he
          | some q =>
            obtain ⟨xs, ks, p⟩ := q
            rw [purify_mono _ h h4]
            simp only [h4] at he ⊢
            cases h5 : St.rd { s with bl := ks ++ s.bl } b with
            | none => simp [h5] at he
            | some k => rw [(h.app ks).rd b k h5]; rw [h5] at he; exact he
        · cases he
  · exact astore0_mono h he
theorem aindexAddr0_mono (h : s.Le s') {t : TypeId} {y i : Operand} {e : E} (he : aindexAddr0 P s t y i = some e) : aindexAddr0 P s' t y i = some e := by
  unfold aindexAddr0 at he ⊢
  cases h1 : ev s y with
  | none => simp [h1] at he
  | some v =>
    cases h2 : ev s i with
    | none => rw [h1, h2] at he; (split at he) <;> first | contradiction | (cases he; done) | (rename_i q; cases q) | (rename_i q _; cases q) | (rename_i q _ _; cases q)
    | some u =>
      rw [ev_mono h h1, ev_mono h h2]
      rw [h1, h2] at he
      split at he
      · rename_i c ik ii el q1 q2 q3
        cases q1; cases q2; simp only [q3]
        split at he
        · simp only [q3] at he; exact he
        · rename_i b lo n
          try simp only
          cases h3 : s.rd b with
          | none => simp [h3] at he
          | some k => rw [h.rd b k h3]; rw [h3] at he; simp only [q3] at he; exact he
        · cases he
      · rename_i q1 q2 q3; cases q1; cases q2; (try simp only [q3]); exact he
      · cases he
theorem aindexAddr_mono (h : s.Le s') {t : TypeId} {y i : Operand} {e : E} (he : aindexAddr P s t y i = some e) : aindexAddr P s' t y i = some e := by
  unfold aindexAddr at he ⊢
  split at he
  · rename_i hA
    unfold aindexAddrA at he ⊢
    cases h1 : ev s y with
    | none => simp [h1] at he
    | some v =>
      cases h2 : ev s i with
      | none => rw [h1, h2] at he; (split at he) <;> first | contradiction | (cases he; done) | (rename_i q; cases q) | (rename_i q _; cases q) | (rename_i q _ _; cases q)
      | some u =>
        rw [ev_mono h h1, ev_mono h h2]
        rw [h1, h2] at he
        split at he
        · rename_i c ik ii len el q1 q2 q3
          cases q1; cases q2; (try simp only [q3])
          split at he
          · rename_i b i0 j0
            try simp only
            cases h3 : s.rd b with
            | none => simp [h3] at he
            | some k => rw [h.rd b k h3]; rw [h3] at he; exact he
          · exact he
          · cases he
        · cases he
  · exact aindexAddr0_mono h he
theorem aop_mono (h : s.Le s') {x : Nat} {o : Oper} {e : E} (he : aop P s x o = some e) : aop P s' x o = some e := by
  have M : ∀ {y : Operand} {e : E}, amove s y = some e → amove s' y = some e := by
    intro y e he
    unfold amove at he ⊢
    cases h1 : ev s y with
    | none => simp [h1] at he
    | some v => rw [ev_mono h h1]; rw [h1] at he; exact he
  obtain ⟨dst, op, type, pos, after, guard⟩ := o
  cases op <;> simp only [aop] at he ⊢
  case move y => exact M he
  case assign y => exact M he
  case pick c y z =>
    unfold apick at he ⊢
    cases h1 : ev s c with
    | none => simp [h1] at he
    | some v =>
      rw [ev_mono h h1]
      rw [h1] at he
      split at he
      · rename_i b hb
        cases hb
        cases b
        · exact M he
        · exact M he
      · cases he
  case alloc t => exact he
  case box t y =>
    unfold abox at he ⊢
    cases h1 : ev s y with
    | none => simp [h1] at he
    | some v => rw [ev_mono h h1]; rw [h1] at he; exact he
  case build t ps =>
    unfold abuild at he ⊢
    split at he
    · rename_i fs zs hf hz
      try simp only [hf, hz]
      cases h1 : sparts P s fs (zs.toList.map litC) ps.toList with
      | none => simp [h1] at he
      | some q => rw [sparts_mono fs h _ h1]; rw [h1] at he; exact he
    · cases he
  case buildSlice t n ps =>
    unfold abuildSlice at he ⊢
    split at he
    · rename_i el hu
      split at he
      · rename_i zs hz
        try simp only [hu, hz]
        cases h1 : bparts s zs.size (List.replicate n (zeroEl zs)) ps.toList with
        | none => simp [h1] at he
        | some q => rw [bparts_mono _ _ h h1]; rw [h1] at he; exact he
      · cases he
    · cases he
  case load t y => exact aload_mono h he
  case store t y z => exact astore_mono h he
  case nilCheck y =>
    unfold anil at he ⊢
    cases h1 : ev s y with
    | none => simp [h1] at he
    | some v => rw [ev_mono h h1]; rw [h1] at he; exact he
  case binOp op t y z ty =>
    unfold abin at he ⊢
    cases h1 : ev s y with
    | none => simp [h1] at he
    | some v =>
      cases h2 : ev s z with
      | none => rw [h1, h2] at he; (split at he) <;> first | contradiction | (cases he; done) | (rename_i q; cases q) | (rename_i q _; cases q) | (rename_i q _ _; cases q)
      | some u => rw [ev_mono h h1, ev_mono h h2]; rw [h1, h2] at he; exact he
  case unOp op t y =>
    unfold aun at he ⊢
    cases h1 : ev s y with
    | none => simp [h1] at he
    | some v => rw [ev_mono h h1]; rw [h1] at he; exact he
  case convert sr d y =>
    unfold aconv at he ⊢
    cases h1 : ev s y with
    | none => simp [h1] at he
    | some v =>
      rw [ev_mono h h1]
      rw [h1] at he
      split at he
      · rename_i q1 q2 q3; cases q1; (try simp only [q2, q3]); exact he
      · rename_i q1 q2 q3; cases q1; (try simp only [q2, q3]); exact he
      · rename_i b lo n e0 q1 q2 q3
        cases q1
        try simp only [q2, q3]
        cases h3 : s.rd b with
        | none => rw [h3] at he; (split at he) <;> first | contradiction | (cases he; done) | (rename_i q; cases q) | (rename_i q _; cases q) | (rename_i q _ _; cases q)
        | some k => rw [h.rd b k h3]; rw [h3] at he; exact he
      · rename_i v' d1 d2 hno q1 q2 q3
        cases q1
        exact he
      · cases he
  case makeSlice t y z =>
    unfold amake at he ⊢
    cases h1 : ev s y with
    | none => simp [h1] at he
    | some v =>
      cases h2 : ev s z with
      | none => rw [h1, h2] at he; (split at he) <;> first | contradiction | (cases he; done) | (rename_i q; cases q) | (rename_i q _; cases q) | (rename_i q _ _; cases q)
      | some u => rw [ev_mono h h1, ev_mono h h2]; rw [h1, h2] at he; exact he
  case slice t y lo hi mx =>
    unfold aslice at he ⊢
    cases h1 : ev s y with
    | none => simp [h1] at he
    | some v =>
      rw [ev_mono h h1]
      rw [h1] at he
      split at he
      · rename_i q1 q2
        cases q1; try simp only [q2]
        split at he
        · rename_i l1 l2; simp only [aint_mono h l1, aint_mono h l2]; exact he
        · cases he
      · rename_i q1 q2
        cases q1; try simp only [q2]
        split at he
        · rename_i l1 l2; simp only [aint_mono h l1, aint_mono h l2]; exact he
        · cases he
      · rename_i q1 q2
        cases q1; try simp only [q2]
        split at he
        · rename_i l1 l2 l3; simp only [aint_mono h l1, aint_mono h l2, h.rd _ _ l3]; exact he
        · cases he
      · cases he
  case fieldAddr t y f =>
    unfold afieldAddr at he ⊢
    cases h1 : ev s y with
    | none => simp [h1] at he
    | some v => rw [ev_mono h h1]; rw [h1] at he; exact he
  case field t y f =>
    unfold afield at he ⊢
    cases h1 : ev s y with
    | none => simp [h1] at he
    | some v => rw [ev_mono h h1]; rw [h1] at he; exact he
  case indexAddr t y i => exact aindexAddr_mono h he
  case index t y i =>
    unfold aindex at he ⊢
    cases h1 : ev s y with
    | none => simp [h1] at he
    | some v =>
      cases h2 : ev s i with
      | none => rw [h1, h2] at he; (split at he) <;> first | contradiction | (cases he; done) | (rename_i q; cases q) | (rename_i q _; cases q) | (rename_i q _ _; cases q)
      | some u => rw [ev_mono h h1, ev_mono h h2]; rw [h1, h2] at he; exact he
  case extract y i =>
    unfold aextract at he ⊢
    cases h1 : ev s y with
    | none => simp [h1] at he
    | some v => rw [ev_mono h h1]; rw [h1] at he; exact he
  case makeFunc fn first caps =>
    cases fn <;> simp only [aop] at he ⊢
    case func f =>
      split at he
      · rename_i hf
        rw [if_pos hf]
        unfold aclo at he ⊢
        cases h1 : evs s caps.toList with
        | none => simp [h1] at he
        | some vs => rw [evs_mono h h1]; rw [h1] at he; exact he
      · cases he
    all_goals cases he
  case call c =>
    obtain ⟨callee, args, ats⟩ := c
    have mn : ∀ {b : Builtin} {consts : Array Bool} {e : E}, amin P s b ats type consts args = some e → amin P s' b ats type consts args = some e := by
      intro b consts e he
      unfold amin at he ⊢
      cases h1 : evs s args.toList with
      | none => simp [h1] at he
      | some vs => rw [evs_mono h h1]; rw [h1] at he; exact he
    cases callee with
    | builtin b =>
      cases b <;> simp only [aop] at he ⊢
      case len =>
        split at he
        · rename_i y t hy ht
          unfold alen at he ⊢
          cases h1 : ev s y with
          | none => simp [h1] at he
          | some v => rw [ev_mono h h1]; rw [h1] at he; exact he
        · cases he
      case append =>
        split at he
        · rename_i y z t tx hy ht
          unfold aappend at he ⊢
          cases h1 : ev s y with
          | none => simp [h1] at he
          | some v =>
            cases h2 : ev s z with
            | none => rw [h1, h2] at he; (split at he) <;> first | contradiction | (cases he; done) | (rename_i q; cases q) | (rename_i q _; cases q) | (rename_i q _ _; cases q)
            | some u =>
              rw [ev_mono h h1, ev_mono h h2]
              rw [h1, h2] at he
              split at he
              · rename_i q1 q2 q3 q4
                cases q1; cases q2
                try simp only [q3, q4]
                split at he
                · cases he
                · rename_i zs hz
                  try simp only [hz]
                  split at he
                  · rename_i l1 l2
                    try simp only [baseEls_mono h l1, srcEls_mono h l2]
                    exact he
                  · cases he
              · cases he
        · cases he
      case min => exact mn he
      case max => exact mn he
      all_goals cases he
    | value f => cases he
    | invoke r m => cases he
  all_goals cases he
theorem callOf_mono (h : s.Le s') {c : Call} {q : FuncId × List AV} (hc : callOf s c = some q) : callOf s' c = some q := by
  unfold callOf at hc ⊢
  split at hc
  · rename_i g hg
    cases h1 : ev s g with
    | none => simp [h1] at hc
    | some v =>
      cases h2 : evs s c.args.toList with
      | none => rw [h1, h2] at hc; (split at hc) <;> first | contradiction | (cases hc; done) | (rename_i q; cases q)
      | some vs => simp only [ev_mono h h1, evs_mono h h2]; rw [h1, h2] at hc; exact hc
  · cases hc
theorem passC_mono (h : s.Le s') {Ls : List Nat} {c : AC} {q : AC × List Nat × Prop} (hp : passC s Ls c = some q) : passC s' Ls c = some q := by
  cases c with
  | hs b lo n =>
    simp only [passC] at hp ⊢
    split at hp
    · rename_i hin; rw [if_pos hin]; exact hp
    · rename_i hin
      rw [if_neg hin]
      cases h1 : s.rd b with
      | none => simp [h1] at hp
      | some k => rw [h.rd b k h1]; rw [h1] at hp; exact hp
  | _ => exact hp
theorem passCs_mono (h : s.Le s') {Ls : List Nat} : ∀ {cs : List AC} {q : List AC × List Nat × Prop}, passCs s Ls cs = some q → passCs s' Ls cs = some q
  | [], q, hp => hp
  | c :: cs, q, hp => by
    simp only [passCs] at hp ⊢
    cases h1 : passC s Ls c with
    | none => simp [h1] at hp
    | some q1 =>
      cases h2 : passCs s Ls cs with
      | none => simp [h1, h2] at hp
      | some q2 => rw [passC_mono h h1, passCs_mono h h2]; rw [h1, h2] at hp; exact hp
theorem passV_mono (h : s.Le s') {Ls : List Nat} {v : AV} {q : AV × List Nat × Prop} (hp : passV s Ls v = some q) : passV s' Ls v = some q := by
  cases v <;> simp only [passV] at hp ⊢
  · rename_i c
    cases h1 : passC s Ls c with
    | none => simp [h1] at hp
    | some q1 => rw [passC_mono h h1]; rw [h1] at hp; exact hp
  · rename_i cs
    cases h1 : passCs s Ls cs with
    | none => simp [h1] at hp
    | some q1 => rw [passCs_mono h h1]; rw [h1] at hp; exact hp
  · cases hp
  · rename_i f cs
    cases h1 : passCs s Ls cs with
    | none => simp [h1] at hp
    | some q1 => rw [passCs_mono h h1]; rw [h1] at hp; exact hp
  · cases hp
theorem passVs_mono (h : s.Le s') {Ls : List Nat} : ∀ {cs : List AV} {q : List AV × List Nat × Prop}, passVs s Ls cs = some q → passVs s' Ls cs = some q
  | [], q, hp => hp
  | c :: cs, q, hp => by
    simp only [passVs] at hp ⊢
    cases h1 : passV s Ls c with
    | none => simp [h1] at hp
    | some q1 =>
      cases h2 : passVs s Ls cs with
      | none => simp [h1, h2] at hp
      | some q2 => rw [passV_mono h h1, passVs_mono h h2]; rw [h1, h2] at hp; exact hp
theorem rds_mono (h : s.Le s') : ∀ {bs : List Nat} {ks : List Blk}, rds s bs = some ks → rds s' bs = some ks
  | [], ks, hp => hp
  | b :: bs, ks, hp => by
    simp only [rds] at hp ⊢
    cases h1 : s.rd b with
    | none => simp [h1] at hp
    | some k =>
      cases h2 : rds s bs with
      | none => simp [h1, h2] at hp
      | some q2 => rw [h.rd b k h1, rds_mono h h2]; rw [h1, h2] at hp; exact hp
theorem Stp.mono (h : s.Le s') {x : Nat} {o : Oper} {v : AV} {wr : List (Nat × Option Blk)} (hs : Stp P s x o v wr) : Stp P s' x o v wr := by
  cases hs with
  | op e he hp hv hw => exact .op e (aop_mono h he) hp hv hw
  | frz c ho f avs cargs hc hf p hpass hp hno r out hgood hol hv hw =>
    exact .frz c ho f avs cargs (callOf_mono h hc) hf p (passVs_mono h hpass) hp hno r out hgood hol hv hw
  | own hno c ho f avs cargs hc hf bor p hpass hp fargs hF r out hgood hol hk1 hk2 hv hw =>
    exact .own (by rw [h.nl]; exact hno) c ho f avs cargs (callOf_mono h hc) hf bor p (passVs_mono h hpass) hp fargs hF r out hgood hol hk1 hk2 hv hw
  | call hno c ho f avs cargs hc hf Ls bor p hpass hp hnd lent hlent hplain r out hgood hol kl hkl hv hw =>
    exact .call (by rw [h.nl]; exact hno) c ho f avs cargs (callOf_mono h hc) hf Ls bor p (passVs_mono h hpass) hp hnd lent (rds_mono h hlent) hplain r out hgood hol kl (by rw [h.nl]; exact hkl) hv hw
  | eat c ho f avs cargs hc hf Ls bor p hpass hp hnd lent hlent hplain m sz els hgood hb hLn hv hw =>
    exact .eat c ho f avs cargs (callOf_mono h hc) hf Ls bor p (passVs_mono h hpass) hp hnd lent (rds_mono h hlent) hplain m sz els hgood hb (by rw [h.nl]; exact hLn) hv hw
end Go.Abs
