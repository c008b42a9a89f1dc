import Derived.Test.YtmieklaakjabaaaGreatGAbs13
set_option linter.unusedSimpArgs false
set_option linter.unusedVariables false
namespace Go.Abs
open Go Go.RowKit
variable {P : Program} {st : St} {A A' : Nat → Prop}
/-! ### values drawn out to their forms, so that a reckoned state can be read -/
def fV : Value → (Value → Prop) → Prop
  | .int k n, K => K (.int k n)
  | .bool b, K => K (.bool b)
  | .string s, K => K (.string s)
  | v, K => K v
def fP : PV → (PV → Prop) → Prop
  | .lit v, K => fV v fun v => K (.lit v)
  | .sl els, K => K (.sl els)
  | .own t els, K => K (.own t els)
def fPs : List PV → (List PV → Prop) → Prop
  | [], K => K []
  | x :: xs, K => fP x fun x => fPs xs fun xs => K (x :: xs)
/-- A number drawn out: what is behind it holds no name any more, so it is reckoned once. -/
def fN (n : Nat) (K : Nat → Prop) : Prop := match n with
  | 0 => K 0
  | m + 1 => K (m + 1)
def fNs : List Nat → (List Nat → Prop) → Prop
  | [], K => K []
  | x :: xs, K => fN x fun x => fNs xs fun xs => K (x :: xs)
def lenN {α : Type} : List α → (Nat → Prop) → Prop
  | [], K => K 0
  | _ :: l, K => lenN l fun n => K (n + 1)
theorem fN_iff (n : Nat) (K : Nat → Prop) : fN n K ↔ K n := by cases n <;> rfl
theorem fNs_iff : ∀ (l : List Nat) (K : List Nat → Prop), fNs l K ↔ K l
  | [], K => by rw [fNs]
  | x :: xs, K => by rw [fNs, fN_iff, fNs_iff xs]
theorem lenN_iff {α : Type} : ∀ (l : List α) (K : Nat → Prop), lenN l K ↔ K l.length
  | [], K => by rw [lenN]; rfl
  | _ :: xs, K => by rw [lenN, lenN_iff xs]; rfl
def fC : AC → (AC → Prop) → Prop
  | .p x, K => fP x fun x => K (.p x)
  | .hs b lo n, K => fN b fun b => K (.hs b lo n)
  | .hp b i j, K => fN b fun b => K (.hp b i j)
  | .fp el j, K => K (.fp el j)
def fCs : List AC → (List AC → Prop) → Prop
  | [], K => K []
  | x :: xs, K => fC x fun x => fCs xs fun xs => K (x :: xs)
mutual
def fA : AV → (AV → Prop) → Prop
  | .one c, K => fC c fun c => K (.one c)
  | .agg cs, K => fCs cs fun cs => K (.agg cs)
  | .tup vs, K => fAs vs fun vs => K (.tup vs)
  | .clo f cs, K => fCs cs fun cs => K (.clo f cs)
  | .unk, K => K .unk
def fAs : List AV → (List AV → Prop) → Prop
  | [], K => K []
  | v :: vs, K => fA v fun v => fAs vs fun vs => K (v :: vs)
end
def fT : List (Nat × AV) → (List (Nat × AV) → Prop) → Prop
  | [], K => K []
  | (t, v) :: l, K => fA v fun v => fT l fun l => K ((t, v) :: l)
def fB : Blk → (Blk → Prop) → Prop
  | .arr sz els, K => K (.arr sz els)
  | .box cs, K => fCs cs fun cs => K (.box cs)
def fBs : List (Nat × Option Blk) → (List (Nat × Option Blk) → Prop) → Prop
  | [], K => K []
  | (b, some k) :: l, K => fN b fun b => fB k fun k => fBs l fun l => K ((b, some k) :: l)
  | (b, none) :: l, K => fN b fun b => fBs l fun l => K ((b, none) :: l)
def fBl : List Blk → (List Blk → Prop) → Prop
  | [], K => K []
  | k :: l, K => fB k fun k => fBl l fun l => K (k :: l)
theorem fV_iff (v : Value) (K : Value → Prop) : fV v K ↔ K v := by unfold fV; split <;> rfl
theorem fP_iff (v : PV) (K : PV → Prop) : fP v K ↔ K v := by unfold fP; split <;> simp [fV_iff]
theorem fC_iff (v : AC) (K : AC → Prop) : fC v K ↔ K v := by unfold fC; split <;> simp [fP_iff, fN_iff]
theorem fCs_iff : ∀ (v : List AC) (K : List AC → Prop), fCs v K ↔ K v
  | [], K => by rw [fCs]
  | x :: xs, K => by rw [fCs, fC_iff, fCs_iff xs]
mutual
theorem fA_iff : ∀ (v : AV) (K : AV → Prop), fA v K ↔ K v
  | .one c, K => by rw [fA, fC_iff]
  | .agg cs, K => by rw [fA, fCs_iff]
  | .tup vs, K => by rw [fA, fAs_iff vs]
  | .clo f cs, K => by rw [fA, fCs_iff]
  | .unk, K => by rw [fA]
theorem fAs_iff : ∀ (v : List AV) (K : List AV → Prop), fAs v K ↔ K v
  | [], K => by rw [fAs]
  | x :: xs, K => by rw [fAs, fA_iff x, fAs_iff xs]
end
theorem fT_iff : ∀ (v : List (Nat × AV)) (K : List (Nat × AV) → Prop), fT v K ↔ K v
  | [], K => by rw [fT]
  | (t, x) :: xs, K => by rw [fT, fA_iff, fT_iff xs]
theorem fB_iff (v : Blk) (K : Blk → Prop) : fB v K ↔ K v := by unfold fB; split <;> simp [fCs_iff]
theorem fBs_iff : ∀ (v : List (Nat × Option Blk)) (K : List (Nat × Option Blk) → Prop), fBs v K ↔ K v
  | [], K => by rw [fBs]
  | (b, some k) :: xs, K => by rw [fBs, fN_iff, fB_iff, fBs_iff xs]
  | (b, none) :: xs, K => by rw [fBs, fN_iff, fBs_iff xs]
theorem fBl_iff : ∀ (v : List Blk) (K : List Blk → Prop), fBl v K ↔ K v
  | [], K => by rw [fBl]
  | k :: xs, K => by rw [fBl, fB_iff, fBl_iff xs]
def dstB (st : St) (o : Oper) : Bool := match o.dst with
  | some d => Nat.blt d st.nt
  | none => true
theorem dstB_iff {o : Oper} (h : dstB st o = true) : dstOk st o := by
  intro d hd
  simp only [dstB, hd, Nat.blt_eq] at h
  exact h
/-- What is to be shown of what is borrowed: that it lies in its block. -/
def conds (st : St) (Ls : List Nat) : List AC → List Prop
  | [] => []
  | .hs b lo n :: cs => if Ls.contains b then conds st Ls cs else match st.rd b with
    | some (.arr _ els) => (lo + n ≤ els.length) :: conds st Ls cs
    | _ => conds st Ls cs
  | _ :: cs => conds st Ls cs
def allP : List Prop → Prop → Prop
  | [], q => q
  | p :: ps, q => p ∧ allP ps q
theorem allP_iff : ∀ {ps : List Prop} {q : Prop}, allP ps q ↔ (∀ p ∈ ps, p) ∧ q
  | [], q => by simp [allP]
  | p :: ps, q => by
    rw [allP, allP_iff]
    constructor
    · rintro ⟨h1, h2, h3⟩
      exact ⟨fun r hr => (List.mem_cons.1 hr).elim (fun e => e ▸ h1) (h2 r), h3⟩
    · rintro ⟨h1, h2⟩
      exact ⟨h1 p (List.mem_cons_self ..), fun r hr => h1 r (List.mem_cons_of_mem _ hr), h2⟩
theorem conds_app (st : St) (Ls : List Nat) : ∀ (a b : List AC), conds st Ls (a ++ b) = conds st Ls a ++ conds st Ls b
  | [], b => rfl
  | c :: cs, b => by
    have ih := conds_app st Ls cs b
    cases c <;> simp only [List.cons_append, conds, ih]
    split
    · rfl
    · split <;> simp
theorem passCs_conds {Ls : List Nat} : ∀ {cs ds : List AC} {k : List Nat} {p : Prop} (_ : passCs st Ls cs = some (ds, k, p)) (_ : ∀ q ∈ conds st Ls cs, q), p
  | [], ds, k, p, h, _ => by simp only [passCs, Option.some.injEq, Prod.mk.injEq] at h; obtain ⟨_, _, rfl⟩ := h; trivial
  | c :: cs, ds, k, p, h, hc => by
    simp only [passCs] at h
    split at h
    · rename_i d k1 p1 ds' k2 p2 h1 h2
      simp only [Option.some.injEq, Prod.mk.injEq] at h
      obtain ⟨_, _, rfl⟩ := h
      have hrest : ∀ q ∈ conds st Ls cs, q := by
        intro q hq
        refine hc q ?_
        cases c <;> simp only [conds] <;> first | exact hq | (split; · exact hq
                                                              · split <;> first | exact List.mem_cons_of_mem _ hq | exact hq)
      refine ⟨?_, passCs_conds h2 hrest⟩
      cases c <;> simp only [passC] at h1
      · simp only [Option.some.injEq, Prod.mk.injEq] at h1; obtain ⟨_, _, rfl⟩ := h1; trivial
      · split at h1
        · simp only [Option.some.injEq, Prod.mk.injEq] at h1; obtain ⟨_, _, rfl⟩ := h1; trivial
        · rename_i hn
          split at h1
          · rename_i sz els hr
            simp only [Option.some.injEq, Prod.mk.injEq] at h1
            obtain ⟨_, _, rfl⟩ := h1
            refine hc _ ?_
            simp only [conds, if_neg hn, hr]
            exact List.mem_cons_self ..
          · cases h1
      · split at h1
        · simp only [Option.some.injEq, Prod.mk.injEq] at h1; obtain ⟨_, _, rfl⟩ := h1; trivial
        · cases h1
      · simp only [Option.some.injEq, Prod.mk.injEq] at h1; obtain ⟨_, _, rfl⟩ := h1; trivial
    · cases h
theorem passV_conds {Ls : List Nat} {x y : AV} {k : List Nat} {p : Prop} (h : passV st Ls x = some (y, k, p)) (hc : ∀ q ∈ conds st Ls x.flat, q) : p := by
  cases x <;> simp only [passV] at h
  · split at h
    · rename_i c _ d k1 p1 h1
      simp only [Option.some.injEq, Prod.mk.injEq] at h
      obtain ⟨_, _, rfl⟩ := h
      have := passCs_conds (st := st) (Ls := Ls) (cs := [c]) (ds := [d]) (k := k1 ++ []) (p := p1 ∧ True) (by simp only [passCs, h1]) hc
      exact this.1
    · cases h
  · split at h
    · rename_i h1; simp only [Option.some.injEq, Prod.mk.injEq] at h; obtain ⟨_, _, rfl⟩ := h; exact passCs_conds h1 hc
    · cases h
  · cases h
  · split at h
    · rename_i h1; simp only [Option.some.injEq, Prod.mk.injEq] at h; obtain ⟨_, _, rfl⟩ := h; exact passCs_conds h1 hc
    · cases h
  · cases h
theorem passVs_conds {Ls : List Nat} : ∀ {cs ds : List AV} {k : List Nat} {p : Prop} (_ : passVs st Ls cs = some (ds, k, p)) (_ : ∀ q ∈ conds st Ls (cs.flatMap AV.flat), q), p
  | [], ds, k, p, h, _ => by simp only [passVs, Option.some.injEq, Prod.mk.injEq] at h; obtain ⟨_, _, rfl⟩ := h; trivial
  | c :: cs, ds, k, p, h, hc => by
    simp only [passVs] at h
    split at h
    · rename_i d k1 p1 ds' k2 p2 h1 h2
      simp only [Option.some.injEq, Prod.mk.injEq] at h
      obtain ⟨_, _, rfl⟩ := h
      rw [List.flatMap_cons, conds_app] at hc
      exact ⟨passV_conds h1 fun q hq => hc q (List.mem_append_left _ hq), passVs_conds h2 fun q hq => hc q (List.mem_append_right _ hq)⟩
    · cases h
def plainB : Blk → Bool
  | .arr _ _ => true
  | .box cs => cs.all fun c => match c with | .p _ | .fp _ _ => true | _ => false
theorem plainB_iff {k : Blk} (h : plainB k = true) : k.plain := by
  cases k with
  | arr => trivial
  | box cs => intro c hc; have := List.all_eq_true.1 h c hc; cases c <;> first | trivial | cases this
def nodupB : List Nat → Bool
  | [] => true
  | x :: xs => !xs.contains x && nodupB xs
theorem nodupB_iff : ∀ {l : List Nat}, nodupB l = true → l.Nodup
  | [], _ => List.nodup_nil
  | x :: xs, h => by
    simp only [nodupB, Bool.and_eq_true, Bool.not_eq_true'] at h
    refine List.nodup_cons.2 ⟨fun hm => ?_, nodupB_iff h.2⟩
    rw [List.contains_iff_mem.2 hm] at h
    cases h.1
/-- A call is made: f hands back r, with these blocks. kl: what was borrowed is not ours any more. -/
inductive CallS (P : Program) (f : FuncId) (cargs : List AV) (lent : List Blk) (bor : List Nat) (own : Option Tmp) (nl nL : Nat) (K : AV → List Blk → Bool → Prop) (KE : Nat → Nat → List (List PV) → Prop) : Prop
  | mk (r : AV) (out : List Blk) (kl : Bool) (hc : Callable P f) (hg : Good P f cargs lent r out) (hl : out.length ≤ nL + 8) (hk : match kl with | true => ∀ b ∈ bor, nl ≤ b | false => bor = [] ∨ (r.NoSl ∧ ∀ k ∈ out, k.noSl)) (h : K r out kl) (hn : own = none := by rfl) : CallS P f cargs lent bor own nl nL K KE
  | own (fargs : List AV) (hF : FgtVs cargs fargs) (r : AV) (out : List Blk) (hc : Callable P f) (hg : GoodO true P f fargs [] r out) (hl : out.length ≤ 8) (hr : r.NoSl) (ho : ∀ k ∈ out, k.noSl) (h : K r out false) (hn : own ≠ none := by exact nofun) (hL : nL = 0 := by rfl) : CallS P f cargs lent bor own nl nL K KE
  | frz (r : AV) (out : List Blk) (hc : Callable P f) (hg : Good P f cargs [] r out) (hl : out.length ≤ 8) (hno : cargs.all AV.nOwn = true) (h : K r out false) (hb : bor = [] := by rfl) (hL : nL = 0 := by rfl) : CallS P f cargs lent bor own nl nL K KE
  | eat (m sz : Nat) (els : List (List PV)) (hc : Callable P f) (hg : GoodE P f cargs lent m sz els) (hb : bor = []) (h : KE m sz els) : CallS P f cargs lent bor own nl nL K KE
/-- A call is made where one operation comes behind the other. -/
inductive CallX (P : Program) (st : St) (f : FuncId) (avs cargs : List AV) (lent : List Blk) (bor Ls : List Nat) (own : Option Tmp) (nl nL : Nat) (K : AV → List Blk → Bool → Prop) (KE : Nat → Nat → List (List PV) → Prop) (KR : AV → Nat × Option Blk → Prop) : Prop
  | s (h : CallS P f cargs lent bor own nl nL K KE)
  | mark (T : List Nat) (r : AV) (out : List Blk) (hc : Callable P f) (hg : GoodM P f cargs lent r out) (harr : ∀ blk ∈ lent, ∃ sz els, blk = .arr sz els) (hlT : ∀ blk ∈ lent, blk.inT T) (hTb : noTB T Ls st.bl) (h : K r out false) (hl : out.length ≤ nL + 8 := by exact Nat.le_of_ble_eq_true rfl)
    (hno : st.nl.own ≠ none := by exact nofun) (htg : st.nl.tg = [] := by rfl) (hnc : cargs.all AV.nOwnH = true := by rfl) (hTm : st.tm.all (fun q => q.2.noT T) = true := by rfl) (hb : bor = [] := by rfl)
  | lend (r : AV) (out : List Blk) (hc : Callable P f) (hg : Good P f cargs lent r out) (hlT : ∀ blk ∈ lent, blk.nOwn) (h : K r out false) (hl : out.length ≤ nL + 8 := by exact Nat.le_of_ble_eq_true rfl) (hno : st.nl.own ≠ none := by exact nofun) (hnc : cargs.all AV.nOwnH = true := by rfl) (hb : bor = [] := by rfl)
  | row (e : Ex) (y : Value) (r : Value) (b0 sz : Nat) (els els' : List (List PV)) (rs' : List Int) (hc : Callable P f) (hg : RowC P f e.n y rs' r) (he : e ∈ st.nl.tg) (huniq : ∀ e' ∈ st.nl.tg, e'.k = e.k → e' = e) (hTb : noTB [e.t] [] st.bl) (ht : Told e rs' els els') (h : KR (lit r) (b0, some (.arr sz els')))
    (ha : avs = [lit e.v, lit y] := by rfl) (hb0 : st.rd b0 = some (.arr sz els) := by rfl) (hTm : st.tm.all (fun q => q.2.noT [e.t]) = true := by rfl)
section
variable {f : FuncId} {avs cargs : List AV} {lent : List Blk} {bor Ls : List Nat} {ow : Option Tmp} {nl nL : Nat} {K : AV → List Blk → Bool → Prop} {KE : Nat → Nat → List (List PV) → Prop} {KR : AV → Nat × Option Blk → Prop}
theorem CallX.mk (r : AV) (out : List Blk) (kl : Bool) (hc : Callable P f) (hg : Good P f cargs lent r out) (hl : out.length ≤ nL + 8) (hk : match kl with | true => ∀ b ∈ bor, nl ≤ b | false => bor = [] ∨ (r.NoSl ∧ ∀ k ∈ out, k.noSl)) (h : K r out kl) (hn : ow = none := by rfl) : CallX P st f avs cargs lent bor Ls ow nl nL K KE KR := .s (.mk r out kl hc hg hl hk h hn)
theorem CallX.own (fargs : List AV) (hF : FgtVs cargs fargs) (r : AV) (out : List Blk) (hc : Callable P f) (hg : GoodO true P f fargs [] r out) (hl : out.length ≤ 8) (hr : r.NoSl) (ho : ∀ k ∈ out, k.noSl) (h : K r out false) (hn : ow ≠ none := by exact nofun) (hL : nL = 0 := by rfl) : CallX P st f avs cargs lent bor Ls ow nl nL K KE KR := .s (.own fargs hF r out hc hg hl hr ho h hn hL)
theorem CallX.frz (r : AV) (out : List Blk) (hc : Callable P f) (hg : Good P f cargs [] r out) (hl : out.length ≤ 8) (hno : cargs.all AV.nOwn = true) (h : K r out false) (hb : bor = [] := by rfl) (hL : nL = 0 := by rfl) : CallX P st f avs cargs lent bor Ls ow nl nL K KE KR := .s (.frz r out hc hg hl hno h hb hL)
theorem CallX.eat (m sz : Nat) (els : List (List PV)) (hc : Callable P f) (hg : GoodE P f cargs lent m sz els) (hb : bor = []) (h : KE m sz els) : CallX P st f avs cargs lent bor Ls ow nl nL K KE KR := .s (.eat m sz els hc hg hb h)
end
def vcallX (P : Program) (m : Bool) (x : Nat) (o : Oper) (c : Call) (st : St) (K : AV → List (Nat × Option Blk) → Prop) : Prop :=
  match callOf st c with
  | none => False
  | some (f, avs) => fNs (lendsOf m avs) fun Ls => match passVs st Ls avs, rds st Ls with
    | some (cargs, bor, _), some lent => chk (nodupB Ls && lent.all plainB) <| allP (conds st Ls (avs.flatMap AV.flat)) <|
        CallX P st f avs cargs lent bor Ls st.nl.own st.nl.n Ls.length (fun r out kl => K (r.ren (backN Ls x)) (backB Ls x 0 out ++ (if kl = true then killB bor else []))) (fun m sz els => chk (Ls.all (Nat.ble st.nl.n)) (K (.one (.hs x 0 m)) ((x, some (.arr sz els)) :: killB Ls))) (fun v e => K v [e])
    | _, _ => False
def vcall (P : Program) (m : Bool) (x : Nat) (o : Oper) (c : Call) (st : St) (K : AV → List (Nat × Option Blk) → Prop) : Prop :=
  match callOf st c with
  | none => False
  | some (f, avs) => fNs (lendsOf m avs) fun Ls => match passVs st Ls avs, rds st Ls with
    | some (cargs, bor, _), some lent => chk (nodupB Ls && lent.all plainB) <| allP (conds st Ls (avs.flatMap AV.flat)) <|
        CallS P f cargs lent bor st.nl.own st.nl.n Ls.length (fun r out kl => K (r.ren (backN Ls x)) (backB Ls x 0 out ++ (if kl = true then killB bor else []))) (fun m sz els => chk (Ls.all (Nat.ble st.nl.n)) (K (.one (.hs x 0 m)) ((x, some (.arr sz els)) :: killB Ls)))
    | _, _ => False
/-- One operation; M f: slices are lent to f. K: what it hands back, what it writes. -/
def vstep (P : Program) (M : FuncId → Bool) (x : Nat) (o : Oper) (st : St) (K : AV → List (Nat × Option Blk) → Prop) : Prop :=
  match o.op with
  | .call { callee := .value (.func f), args, argTypes } => vcall P (M f) x o { callee := .value (.func f), args, argTypes } st K
  | .call { callee := .value g, args, argTypes } => vcall P false x o { callee := .value g, args, argTypes } st K
  | _ => vop P st x o K
def vstepX (P : Program) (M : FuncId → Bool) (x : Nat) (o : Oper) (st : St) (K : AV → List (Nat × Option Blk) → Prop) : Prop :=
  match o.op with
  | .call { callee := .value (.func f), args, argTypes } => vcallX P (M f) x o { callee := .value (.func f), args, argTypes } st K
  | .call { callee := .value g, args, argTypes } => vcallX P false x o { callee := .value g, args, argTypes } st K
  | _ => vop P st x o K
/-- What a step does, known: by an operation or by a call. -/
inductive Stp (P : Program) (st : St) (x : Nat) (o : Oper) (v : AV) (wr : List (Nat × Option Blk)) : Prop
  | op (e : E) (he : aop P st x o = some e) (hp : e.pre) (hv : e.v = v) (hw : e.wr = wr)
  | call (hno : st.nl.own = none) (c : Call) (ho : o.op = .call c) (f : FuncId) (avs cargs : List AV) (hc : callOf st c = some (f, avs)) (hf : Callable P f) (Ls bor : List Nat) (p : Prop) (hpass : passVs st Ls avs = some (cargs, bor, p)) (hp : p) (hnd : Ls.Nodup)
      (lent : List Blk) (hlent : rds st Ls = some lent) (hplain : ∀ blk ∈ lent, blk.inA (fun _ => False)) (r : AV) (out : List Blk) (hgood : Good P f cargs lent r out) (hol : out.length ≤ Ls.length + 8) (kl : Bool)
      (hkl : match kl with | true => ∀ b ∈ bor, st.nl.n ≤ b | false => bor = [] ∨ (r.NoSl ∧ ∀ k ∈ out, k.noSl)) (hv : r.ren (backN Ls x) = v) (hw : backB Ls x 0 out ++ (if kl = true then killB bor else []) = wr)
  | own (hno : st.nl.own ≠ none) (c : Call) (ho : o.op = .call c) (f : FuncId) (avs cargs : List AV) (hc : callOf st c = some (f, avs)) (hf : Callable P f) (bor : List Nat) (p : Prop) (hpass : passVs st [] avs = some (cargs, bor, p)) (hp : p) (fargs : List AV) (hF : FgtVs cargs fargs)
      (r : AV) (out : List Blk) (hgood : GoodO true P f fargs [] r out) (hol : out.length ≤ 8) (hk1 : r.NoSl) (hk2 : ∀ k ∈ out, k.noSl) (hv : r.ren (backN [] x) = v) (hw : backB [] x 0 out = wr)
  | frz (c : Call) (ho : o.op = .call c) (f : FuncId) (avs cargs : List AV) (hc : callOf st c = some (f, avs)) (hf : Callable P f) (p : Prop) (hpass : passVs st [] avs = some (cargs, [], p)) (hp : p) (hno : ∀ c ∈ cargs, c.nOwn = true)
      (r : AV) (out : List Blk) (hgood : Good P f cargs [] r out) (hol : out.length ≤ 8) (hv : r.ren (backN [] x) = v) (hw : backB [] x 0 out = wr)
  | eat (c : Call) (ho : o.op = .call c) (f : FuncId) (avs cargs : List AV) (hc : callOf st c = some (f, avs)) (hf : Callable P f) (Ls bor : List Nat) (p : Prop) (hpass : passVs st Ls avs = some (cargs, bor, p)) (hp : p) (hnd : Ls.Nodup)
      (lent : List Blk) (hlent : rds st Ls = some lent) (hplain : ∀ blk ∈ lent, blk.inA (fun _ => False)) (m sz : Nat) (els : List (List PV)) (hgood : GoodE P f cargs lent m sz els) (hb : bor = []) (hLn : ∀ b ∈ Ls, st.nl.n ≤ b)
      (hv : .one (.hs x 0 m) = v) (hw : (x, some (.arr sz els)) :: killB Ls = wr)
theorem Stp.ox {x : Nat} {o : Oper} {v : AV} {wr : List (Nat × Option Blk)} (h : Stp P st x o v wr) (hx : ∀ b, x ≤ b → b < x + 8 → ¬ A b) (hd : dstOk st o) : OX P A (slots A x) o st (st.aft o.dst v wr) := by
  cases h with
  | op e he hp hv hw => subst hv; subst hw; exact ox_op hx he hp hd
  | frz c ho f avs cargs hc hf p hpass hp hno r out hgood hol hv hw =>
    subst hv; subst hw
    exact ox_frz hx ho hc hf p hpass hp hno r out hgood hol hd
  | own hno c ho f avs cargs hc hf bor p hpass hp fargs hF r out hgood hol hk1 hk2 hv hw =>
    subst hv; subst hw
    exact ox_own hno hx ho hc hf bor p hpass hp fargs hF r out hgood hol hk1 hk2 hd
  | call hno c ho f avs cargs hc hf Ls bor p hpass hp hnd lent hlent hplain r out hgood hol kl hkl hv hw =>
    subst hv; subst hw
    exact ox_call hno hx ho hc hf Ls bor p hpass hp hnd lent hlent hplain r out hgood hol kl hkl hd
  | eat c ho f avs cargs hc hf Ls bor p hpass hp hnd lent hlent hplain m sz els hgood hb hLn hv hw =>
    subst hv; subst hw
    exact ox_eat hx ho hc hf Ls bor p hpass hp hnd lent hlent hplain m sz els hgood hb hLn hd
theorem callS_stp {x : Nat} {o : Oper} {c : Call} {K : AV → List (Nat × Option Blk) → Prop} (ho : o.op = .call c) {f : FuncId} {avs cargs : List AV} {bor Ls : List Nat} {p : Prop} {lent : List Blk} (hc : callOf st c = some (f, avs)) (hpass : passVs st Ls avs = some (cargs, bor, p)) (hlent : rds st Ls = some lent) (h1 : (nodupB Ls && lent.all plainB) = true) (h3 : ∀ q ∈ conds st Ls (avs.flatMap AV.flat), q)
    (h4 : CallS P f cargs lent bor st.nl.own st.nl.n Ls.length (fun r out kl => K (r.ren (backN Ls x)) (backB Ls x 0 out ++ (if kl = true then killB bor else []))) (fun m sz els => chk (Ls.all (Nat.ble st.nl.n)) (K (.one (.hs x 0 m)) ((x, some (.arr sz els)) :: killB Ls)))) : ∃ v wr, K v wr ∧ Stp P st x o v wr := by
  simp only [Bool.and_eq_true] at h1
  cases h4 with
  | frz r out hcb hg hl hno hK hb hL =>
    obtain hL := List.eq_nil_of_length_eq_zero hL
    rw [hL] at hpass hK h3
    subst hb
    exact ⟨_, _, hK, .frz c ho f avs cargs hc hcb p hpass (passVs_conds hpass h3) (List.all_eq_true.1 hno) r out hg hl rfl (by simp)⟩
  | own fargs hF r out hcb hg hl hr ho2 hK hn hL =>
    obtain hL := List.eq_nil_of_length_eq_zero hL
    rw [hL] at hpass hK h3
    exact ⟨_, _, hK, .own hn c ho f avs cargs hc hcb bor p hpass (passVs_conds hpass h3) fargs hF r out hg hl hr ho2 rfl (by simp)⟩
  | mk r out kl hcb hg hl hk hK hn =>
    exact ⟨_, _, hK, .call hn c ho f avs cargs hc hcb _ bor p hpass (passVs_conds hpass h3) (nodupB_iff h1.1) lent hlent (fun blk hb => Blk.plain_inA (plainB_iff (List.all_eq_true.1 h1.2 blk hb))) r out hg hl kl hk rfl rfl⟩
  | eat m sz els hcb hg hb0 hK =>
    obtain ⟨h5, hK⟩ := chk_iff.1 hK
    exact ⟨_, _, hK, .eat c ho f avs cargs hc hcb _ bor p hpass (passVs_conds hpass h3) (nodupB_iff h1.1) lent hlent (fun blk hb => Blk.plain_inA (plainB_iff (List.all_eq_true.1 h1.2 blk hb))) m sz els hg hb0 (fun b hb => Nat.le_of_ble_eq_true (List.all_eq_true.1 h5 b hb)) rfl rfl⟩
theorem vcall_stp {m : Bool} {x : Nat} {o : Oper} {c : Call} {K : AV → List (Nat × Option Blk) → Prop} (ho : o.op = .call c) (h : vcall P m x o c st K) : ∃ v wr, K v wr ∧ Stp P st x o v wr := by
  unfold vcall at h
  split at h
  · exact h.elim
  · rename_i f avs hc
    rw [fNs_iff] at h
    split at h
    · rename_i cargs bor p lent hpass hlent
      obtain ⟨h1, h2⟩ := chk_iff.1 h
      obtain ⟨h3, h4⟩ := allP_iff.1 h2
      exact callS_stp ho hc hpass hlent h1 h3 h4
    · exact h.elim
theorem vcallX_ox {m : Bool} {x : Nat} {o : Oper} {c : Call} {K : AV → List (Nat × Option Blk) → Prop} (ho : o.op = .call c) (h : vcallX P m x o c st K) (hx : ∀ b, x ≤ b → b < x + 8 → ¬ A b) : ∃ v wr, K v wr ∧ (dstOk st o → OX P A (slots A x) o st (st.aft o.dst v wr)) := by
  unfold vcallX at h
  split at h
  · exact h.elim
  · rename_i f avs hc
    rw [fNs_iff] at h
    split at h
    · rename_i cargs bor p lent hpass hlent
      obtain ⟨h1, h2⟩ := chk_iff.1 h
      obtain ⟨h3, h4⟩ := allP_iff.1 h2
      cases h4 with
      | s h4 =>
        obtain ⟨v, wr, q1, q2⟩ := callS_stp ho hc hpass hlent h1 h3 h4
        exact ⟨v, wr, q1, fun hd => q2.ox hx hd⟩
      | mark T r out hcb hg harr hlT hTb hK hl hno htg hnc hTm hb =>
        simp only [Bool.and_eq_true] at h1
        subst hb
        refine ⟨_, _, hK, fun hd => ?_⟩
        have := ox_mark (x := x) hno htg hx ho hc hcb _ p hpass (passVs_conds hpass h3) (nodupB_iff h1.1) lent hlent harr T (List.all_eq_true.1 hnc) hlT hTm hTb r out hg hl hd
        simpa using this
      | lend r out hcb hg hlT hK hl hno hnc hb =>
        simp only [Bool.and_eq_true] at h1
        subst hb
        refine ⟨_, _, hK, fun hd => ?_⟩
        have := ox_lend (x := x) hno hx ho hc hcb _ p hpass (passVs_conds hpass h3) (nodupB_iff h1.1) lent hlent (List.all_eq_true.1 hnc) hlT r out hg hl hd
        simpa using this
      | row e y r b0 sz els els' rs' hcb hg he huniq hTb ht hK ha hb0 hTm =>
        subst ha
        exact ⟨_, _, hK, fun hd => ox_row ho e y hc hcb he huniq hTm hTb b0 sz els els' hb0 rs' ht r hg hd⟩
    · exact h.elim
theorem vstep_stp {M : FuncId → Bool} {x : Nat} {o : Oper} {K : AV → List (Nat × Option Blk) → Prop} (h : vstep P M x o st K) : ∃ v wr, K v wr ∧ Stp P st x o v wr := by
  unfold vstep at h
  split at h
  · rename_i f args ats ho; exact vcall_stp ho h
  · rename_i g args ats _ ho; exact vcall_stp ho h
  · obtain ⟨e, he, hp, hK⟩ := vop_sound h
    exact ⟨e.v, e.wr, hK, .op e he hp rfl rfl⟩
theorem vstepX_ox {M : FuncId → Bool} {x : Nat} {o : Oper} {K : AV → List (Nat × Option Blk) → Prop} (h : vstepX P M x o st K) (hx : ∀ b, x ≤ b → b < x + 8 → ¬ A b) : ∃ v wr, K v wr ∧ (dstOk st o → OX P A (slots A x) o st (st.aft o.dst v wr)) := by
  unfold vstepX at h
  split at h
  · rename_i f args ats ho; exact vcallX_ox ho h hx
  · rename_i g args ats _ ho; exact vcallX_ox ho h hx
  · obtain ⟨e, he, hp, hK⟩ := vop_sound h
    exact ⟨e.v, e.wr, hK, fun hd => ox_op hx he hp hd⟩
/-- A truth value decides. -/
def br (b : Bool) (p q : Prop) : Prop := match b with
  | true => p
  | false => q
def stepK (st : St) (dst : Option Tmp) (v : AV) (wr : List (Nat × Option Blk)) (K : St → Prop) : Prop := match st with
  | ⟨nt, nl, tm, bl⟩ => fA v fun v => fBs wr fun wr => match dst with
    | some d => match wr with
      | [] => K ⟨nt, nl, (d, v) :: tm, bl⟩
      | [e] => K ⟨nt, nl, (d, v) :: tm, e :: bl⟩
      | e :: e' :: r => K ⟨nt, nl, (d, v) :: tm, e :: e' :: (r ++ bl)⟩
    | none => match wr with
      | [] => K ⟨nt, nl, tm, bl⟩
      | [e] => K ⟨nt, nl, tm, e :: bl⟩
      | e :: e' :: r => K ⟨nt, nl, tm, e :: e' :: (r ++ bl)⟩
theorem stepK_iff {st : St} {dst : Option Tmp} {v : AV} {wr : List (Nat × Option Blk)} {K : St → Prop} : stepK st dst v wr K ↔ K (st.aft dst v wr) := by
  obtain ⟨nt, nl, tm, bl⟩ := st
  simp only [stepK, fA_iff, fBs_iff]
  cases dst <;> (match wr with
    | [] => rfl
    | [e] => rfl
    | e :: e' :: r => rfl)
def setK (st : St) (t : Nat) (b : Bool) (K : St → Prop) : Prop := match st with
  | ⟨nt, nl, tm, bl⟩ => K ⟨nt, nl, (t, lit (.bool b)) :: tm, bl⟩
theorem setK_iff {st : St} {t : Nat} {b : Bool} {K : St → Prop} : setK st t b K ↔ K (st.setT t b) := Iff.rfl
/-- The truth value b is told of slot t, unless it is known that it is told (g: the guards that were). -/
def setG (g : List Nat) (j : Nat) (st : St) (t : Nat) (b : Bool) (K : List Nat → St → Prop) : Prop := match g.contains j with
  | true => K g st
  | false => setK st t b (K (j :: g))
def gstep (b want : Bool) (g : List Nat) (j : Nat) (st : St) (t : Nat) (go sk : List Nat → St → Prop) : Prop := match b with
  | true => setG g j st t true fun g st => br want (go g st) (sk g st)
  | false => setG g j st t false fun g st => br want (sk g st) (go g st)
theorem gstep_out {x : Nat} {b want : Bool} {g : List Nat} {j : Nat} {st : St} {t : Nat} {go sk : List Nat → St → Prop} (ht : lk st.tm t = some (lit (.bool b))) (h : gstep b want g j st t go sk) :
    ∃ g1 st1, (∀ X a w, RelA X (· < x) st a w → RelA X (· < x) st1 a w) ∧ st1.nt = st.nt ∧ ((b = want ∧ go g1 st1) ∨ (b ≠ want ∧ sk g1 st1)) := by
  have sg : ∀ (F : List Nat → St → Prop), setG g j st t b F → ∃ g1 st1, (∀ X a w, RelA X (· < x) st a w → RelA X (· < x) st1 a w) ∧ st1.nt = st.nt ∧ F g1 st1 := by
    intro F h
    unfold setG at h
    split at h
    · exact ⟨g, st, fun _ _ _ q => q, rfl, h⟩
    · exact ⟨_, _, fun X a w hr => hr.setT ht, rfl, setK_iff.1 h⟩
  cases b with
  | true =>
    have h : setG g j st t true (fun g st => br want (go g st) (sk g st)) := h
    obtain ⟨g1, st1, h1, h2, h3⟩ := sg _ h
    cases want with
    | true => exact ⟨g1, st1, h1, h2, .inl ⟨rfl, h3⟩⟩
    | false => exact ⟨g1, st1, h1, h2, .inr ⟨by simp, h3⟩⟩
  | false =>
    have h : setG g j st t false (fun g st => br want (sk g st) (go g st)) := h
    obtain ⟨g1, st1, h1, h2, h3⟩ := sg _ h
    cases want with
    | true => exact ⟨g1, st1, h1, h2, .inr ⟨by simp, h3⟩⟩
    | false => exact ⟨g1, st1, h1, h2, .inl ⟨rfl, h3⟩⟩
/-- Operations one behind the other. -/
def vlist (P : Program) (M : FuncId → Bool) (ops : Array Oper) (K : St → Prop) : Nat → List Nat → List Oper → St → Prop
  | _, _, [], st => K st
  | x, g, o :: rest, st => match dstB st o with
    | false => False
    | true => match o.guard with
      | none => vstepX P M x o st fun v wr => stepK st o.dst v wr (vlist P M ops K (x + 8) g rest)
      | some (j, want) => match ops[j]? with
        | none => False
        | some oj => match oj.dst with
          | none => False
          | some t => match lk st.tm t with
            | some (.one (.p (.lit (.bool b)))) => gstep b want g j st t (fun g st => vstepX P M x o st fun v wr => stepK st o.dst v wr (vlist P M ops K (x + 8) g rest)) (fun g st => stepK st o.dst (lit undef) [] (vlist P M ops K (x + 8) g rest))
            | some (.one (.p (.lit (.tuple _)))) => stepK st o.dst (lit undef) [] (vlist P M ops K (x + 8) g rest)
            | _ => False
theorem vlist_sound {M : FuncId → Bool} {ops : Array Oper} {K : St → Prop} : ∀ (l : List Oper) (x : Nat) (g : List Nat) (st : St), vlist P M ops K x g l st → ∃ st', K st' ∧ LX P ops l (· < x) (· < x + 8 * l.length) st st'
  | [], x, g, st, h => ⟨st, h, fun X a w hr Q hQ => hQ a w hr⟩
  | o :: rest, x, g, st, h => by
    have hx : ∀ b, x ≤ b → b < x + 8 → ¬ b < x := fun b h1 _ => by omega
    have hlen : x + 8 * (o :: rest).length = x + 8 + 8 * rest.length := by simp; omega
    rw [hlen]
    unfold vlist at h
    cases hdB : dstB st o with
    | false => rw [hdB] at h; exact h.elim
    | true =>
      rw [hdB] at h
      have hd := dstB_iff hdB
      cases hg : o.guard with
      | none =>
        simp only [hg] at h
        obtain ⟨v, wr, h1, h2⟩ := vstepX_ox (A := (· < x)) h hx
        obtain ⟨st2, h3, h4⟩ := vlist_sound rest (x + 8) _ _ (stepK_iff.1 h1)
        exact ⟨st2, h3, lx_cons (fun X a w _ => by simp [Region.wanted, hg]) (h2 hd) h4⟩
      | some jw =>
        obtain ⟨j, want⟩ := jw
        simp only [hg] at h
        cases hoj : ops[j]? with
        | none => simp only [hoj] at h
        | some oj =>
          simp only [hoj] at h
          cases ht0 : oj.dst with
          | none => simp only [ht0] at h
          | some t =>
            simp only [ht0] at h
            have hj : (ops[j]?).bind (·.dst) = some t := by rw [hoj]; exact ht0
            cases ht : lk st.tm t with
            | none => simp only [ht] at h
            | some av =>
              cases av with
              | one c => cases c with
                | p y => cases y with
                  | lit v => cases v with
                    | bool b =>
                      simp only [ht] at h
                      obtain ⟨g1, st1, hs, hnt, h5⟩ := gstep_out (x := x) ht h
                      have hy : ∀ X a w, RelA X (· < x) st a w → yielded ops a.tmps j = some b := fun X a w hr => yielded_of (v := .bool b) hj (hr.tmp ht)
                      rcases h5 with ⟨rfl, h6⟩ | ⟨hne, h6⟩
                      · obtain ⟨v, wr, h1, h2⟩ := vstepX_ox (A := (· < x)) h6 hx
                        obtain ⟨st2, h3, h4⟩ := vlist_sound rest (x + 8) _ _ (stepK_iff.1 h1)
                        refine ⟨st2, h3, lx_cons (fun X a w hr => ?_) (st1 := st1.aft o.dst v wr) ?_ h4⟩
                        · simp [Region.wanted, hg, hy X a w hr]
                        · exact fun X a w hr next Q hn => h2 (fun d hd' => hnt ▸ hd d hd') X a w (hs X a w hr) next Q hn
                      · obtain ⟨st2, h3, h4⟩ := vlist_sound rest (x + 8) _ _ (stepK_iff.1 h6)
                        refine ⟨st2, h3, fun X a w hr Q hQ => ?_⟩
                        have hwn : Region.wanted o (yielded ops a.tmps) = false := by
                          simp only [Region.wanted, hg, hy X a w hr]
                          cases b <;> cases want <;> first | rfl | exact absurd rfl hne
                        unfold wpList
                        rw [if_neg (by rw [hwn]; simp)]
                        exact h4 X _ w (((hs X a w hr).skip (fun d hd' => hnt ▸ hd d hd')).weak (fun b hb => by omega)) Q hQ
                    | tuple vs =>
                      simp only [ht] at h
                      obtain ⟨st2, h3, h4⟩ := vlist_sound rest (x + 8) _ _ (stepK_iff.1 h)
                      refine ⟨st2, h3, lx_skip (fun X a w hr => ?_) hd h4⟩
                      have hy' : yielded ops a.tmps j = none := yielded_of (v := .tuple vs) hj (hr.tmp ht)
                      simp [Region.wanted, hg, hy']
                    | _ => simp only [ht] at h
                  | _ => simp only [ht] at h
                | _ => simp only [ht] at h
              | _ => simp only [ht] at h
/-- A loop that is to be shown. -/
inductive VLoop (P : Program) (c : Code) (Q : Exit → Nat → St → Prop) (n : Nat) (st : St) : Prop
  | mk (h : ALoop P c Q n st)
/-- A region that draws, to be shown. -/
inductive VDraw (P : Program) (M : FuncId → Bool) (id : Nat) (ops : Array Oper) (Q : Exit → Nat → St → Prop) (n : Nat) (st : St) : Prop
  | mk (h : AWp P (.region id ops true) Q n st)
def vcode (P : Program) (M : FuncId → Bool) : Code → (Exit → Nat → St → Prop) → Nat → St → Prop
  | .skip, Q, n, s => Q .normal n s
  | .seq x y, Q, n, s => vcode P M x (andThen (vcode P M y Q) Q) n s
  | .cond c x y, Q, n, s => match ev s c with
    | some (.one (.p (.lit (.bool b)))) => match c with
      | .tmp t => match b with
        | true => setK s t true (vcode P M x Q n)
        | false => setK s t false (vcode P M y Q n)
      | _ => match b with
        | true => vcode P M x Q n s
        | false => vcode P M y Q n s
    | _ => False
  | .block id c, Q, n, s => vcode P M c (inBlk id Q) n s
  | .loop c, Q, n, s => VLoop P c Q n s
  | .exit id, Q, n, s => Q (.exit id) n s
  | .ret, Q, n, s => Q .ret n s
  | .region id ops draw, Q, n, s => match draw with
    | false => vlist P M ops (Q .normal (n + 8 * ops.toList.length)) n [] ops.toList s
    | true => VDraw P M id ops Q n s
  | _, _, _, _ => False
theorem vcode_sound {M : FuncId → Bool} : ∀ (c : Code) {Q : Exit → Nat → St → Prop} {n : Nat} {st : St}, vcode P M c Q n st → AWp P c Q n st
  | .skip, Q, n, st, h => awp_leaf (fun _ _ _ q => wp_skip q) h
  | .seq x y, Q, n, st, h => awp_seq ((vcode_sound x h).mono (andThen_mono fun n s q => vcode_sound y q))
  | .cond c x y, Q, n, st, h => by
    simp only [vcode] at h
    split at h
    · rename_i b hc
      refine awp_cond hc (fun hb => ?_) (fun hb => ?_)
      · subst hb
        split at h
        · exact AWp.sub (fun X a w hr => hr.setT hc) (vcode_sound x h)
        · exact vcode_sound x h
      · subst hb
        split at h
        · exact AWp.sub (fun X a w hr => hr.setT hc) (vcode_sound y h)
        · exact vcode_sound y h
    · exact h.elim
  | .block id c, Q, n, st, h => awp_block (vcode_sound c h)
  | .loop c, Q, n, st, ⟨h⟩ => awp_loop h
  | .exit id, Q, n, st, h => awp_leaf (fun _ _ _ q => wp_exit q) h
  | .ret, Q, n, st, h => awp_leaf (fun _ _ _ q => wp_ret q) h
  | .region id ops draw, Q, n, st, h => by
    cases draw with
    | false =>
      simp only [vcode] at h
      obtain ⟨st', h1, h2⟩ := vlist_sound ops.toList n [] st h
      exact ⟨.normal, _, st', h1, fun X a w hr => wp_region_list (h2 X a w hr _ fun a' w' hr' => ⟨rfl, hr'⟩)⟩
    | true =>
      obtain ⟨h⟩ := h
      exact h
  | .rangeFunc .., _, _, _, h => by simp [vcode] at h
  | .scope _, _, _, _, h => by simp [vcode] at h
  | .label _, _, _, _, h => by simp [vcode] at h
  | .goto _, _, _, _, h => by simp [vcode] at h
  | .refuse _, _, _, _, h => by simp [vcode] at h
/-- How a function ends, to be reckoned. -/
def vfin (P : Program) (rs : List ResultVar) (Qf : AV → List Blk → Prop) : Exit → Nat → St → Prop
  | .ret, _, st | .normal, _, st => match resVs P st rs with
    | none => False
    | some (vs, p) => fNs (namesOf st [(0, tupV vs)]) fun Ns => match rds st Ns with
        | none => False
        | some bs => p ∧ chk (nodupB Ns && (Ns.take st.nl.n == List.range st.nl.n) && (tupV vs).nm.all Ns.contains && bs.all (fun k => k.nm.all Ns.contains)) (Qf ((tupV vs).ren (idxN Ns)) (bs.map (Blk.ren (idxN Ns))))
  | _, _, _ => False
theorem vfin_fin {rs : List ResultVar} {Qf : AV → List Blk → Prop} : ∀ e n s, vfin P rs Qf e n s → fin P rs Qf e n s := by
  intro e n s h
  have key : ∀ s, (match resVs P s rs with
    | none => False
    | some (vs, p) => fNs (namesOf s [(0, tupV vs)]) fun Ns => match rds s Ns with
        | none => False
        | some bs => p ∧ chk (nodupB Ns && (Ns.take s.nl.n == List.range s.nl.n) && (tupV vs).nm.all Ns.contains && bs.all (fun k => k.nm.all Ns.contains)) (Qf ((tupV vs).ren (idxN Ns)) (bs.map (Blk.ren (idxN Ns))))) → fin P rs Qf .ret 0 s := by
    intro s h
    simp only [fin]
    split at h
    · exact h.elim
    · rw [fNs_iff] at h
      split at h
      · exact h.elim
      · rename_i vs p hr _ bs hbs
        simp only [hr, hbs]
        obtain ⟨h1, h2⟩ := h
        obtain ⟨h3, h4⟩ := chk_iff.1 h2
        simp only [Bool.and_eq_true, beq_iff_eq] at h3
        refine ⟨h1, ⟨nodupB_iff h3.1.1.1, h3.1.1.2⟩, fun b hb => ?_, fun k hk b hb => ?_, h4⟩
        · exact List.contains_iff_mem.1 (List.all_eq_true.1 h3.1.2 b hb)
        · exact List.contains_iff_mem.1 (List.all_eq_true.1 (List.all_eq_true.1 h3.2 k hk) b hb)
  cases e <;> simp only [vfin] at h <;> first | exact h.elim | exact key s h
theorem good_vO (own : Option Tmp) {f : FuncId} {fn : Func} {c : Code} (M : FuncId → Bool) (hf : P.funcs[f]? = some fn) (hb : fn.body = some c) {args : List AV} {lent : List Blk} (hn : Nat.ble args.length fn.ntmps = true) {Qf : AV → List Blk → Prop}
    (h : lenN lent fun nl => vcode P M c (vfin P fn.results.toList Qf) nl ⟨fn.ntmps, ⟨nl, own, []⟩, argT 0 args, lentB 0 lent⟩) : ∃ r out, Qf r out ∧ GoodO own.isSome P f args lent r out :=
  good_ofO own hf hb (Nat.le_of_ble_eq_true hn) ((vcode_sound c ((lenN_iff lent _).1 h)).mono vfin_fin)
theorem good_eO (own : Option Tmp) {f : FuncId} {fn : Func} {c : Code} (M : FuncId → Bool) (hf : P.funcs[f]? = some fn) (hb : fn.body = some c) {args : List AV} {lent : List Blk} (hn : Nat.ble args.length fn.ntmps = true) {r0 : AV} {out0 : List Blk}
    (h : lenN lent fun nl => vcode P M c (vfin P fn.results.toList (fun r out => r = r0 ∧ out = out0)) nl ⟨fn.ntmps, ⟨nl, own, []⟩, argT 0 args, lentB 0 lent⟩) : GoodO own.isSome P f args lent r0 out0 := by
  obtain ⟨r, out, ⟨rfl, rfl⟩, h⟩ := good_vO own M hf hb hn h
  assumption
theorem good_v {f : FuncId} {fn : Func} {c : Code} (M : FuncId → Bool) (hf : P.funcs[f]? = some fn) (hb : fn.body = some c) {args : List AV} {lent : List Blk} (hn : Nat.ble args.length fn.ntmps = true) {Qf : AV → List Blk → Prop}
    (h : lenN lent fun nl => vcode P M c (vfin P fn.results.toList Qf) nl ⟨fn.ntmps, ⟨nl, none, []⟩, argT 0 args, lentB 0 lent⟩) : ∃ r out, Qf r out ∧ Good P f args lent r out := good_vO none M hf hb hn h
theorem good_e {f : FuncId} {fn : Func} {c : Code} (M : FuncId → Bool) (hf : P.funcs[f]? = some fn) (hb : fn.body = some c) {args : List AV} {lent : List Blk} (hn : Nat.ble args.length fn.ntmps = true) {r0 : AV} {out0 : List Blk}
    (h : lenN lent fun nl => vcode P M c (vfin P fn.results.toList (fun r out => r = r0 ∧ out = out0)) nl ⟨fn.ntmps, ⟨nl, none, []⟩, argT 0 args, lentB 0 lent⟩) : Good P f args lent r0 out0 := good_eO none M hf hb hn h
end Go.Abs
