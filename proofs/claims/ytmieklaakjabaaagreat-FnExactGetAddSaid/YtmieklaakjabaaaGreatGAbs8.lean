import Derived.Test.YtmieklaakjabaaaGreatGAbs7
set_option linter.unusedSimpArgs false
set_option linter.unusedVariables false
namespace Go.Abs
open Go Go.RowKit
variable {P : Program} {X : Ctx} {A A' : Nat → Prop} {σ : Nat → Loc} {S : Kx → Prop} {st : St} {a : Act} {w w' : World}
/-! ### strings and bytes -/
def bytesEls (s : ByteArray) : List (List PV) := s.data.toList.map fun b => [.lit (.int .u8 b.toNat)]
def byteOf : List PV → UInt8
  | [.lit (.int .u8 n)] => UInt8.ofNat n.toNat
  | _ => 0
def elsBytes (els : List (List PV)) : ByteArray := ⟨(els.map byteOf).toArray⟩
def isByte (el : List PV) : Prop := ∃ n, el = [.lit (.int .u8 n)]
def aconv (P : Program) (st : St) (x : Nat) (src dst : TypeId) (y : Operand) : Option E :=
  match ev st y, P.underlying src, P.underlying dst with
  | some (.one (.p (.lit (.string s)))), some .string, some (.slice e) => match P.underlying e with
    | some (.int .u8) => some ⟨True, .one (.hs x 0 s.size), [(x, some (.arr 1 (bytesEls s)))]⟩
    | _ => none
  | some (.one (.p (.sl els))), some (.slice e), some .string => match P.underlying e with
    | some (.int .u8) => some ⟨∀ el ∈ els, isByte el, lit (.string (elsBytes els)), []⟩
    | _ => none
  | some (.one (.hs b lo n)), some (.slice e), some .string => match P.underlying e, st.rd b with
    | some (.int .u8), some (.arr 1 els) => some ⟨lo + n ≤ els.length ∧ ∀ el ∈ (els.drop lo).take n, isByte el, lit (.string (elsBytes ((els.drop lo).take n))), []⟩
    | _, _ => none
  | some (.one (.p (.lit v))), some _, some _ => (pureRun P (convert src dst v)).map fun r => ⟨True, lit r, []⟩
  | _, _, _ => none
theorem foldl_push (ns : List Int) : ∀ (acc : List UInt8), ns.foldl (fun r n => r.push (UInt8.ofNat n.toNat)) (⟨acc.toArray⟩ : ByteArray) = ⟨(acc ++ ns.map fun n => UInt8.ofNat n.toNat).toArray⟩ := by
  induction ns with
  | nil => intro acc; simp
  | cons n ns ih =>
    intro acc
    have : (⟨acc.toArray⟩ : ByteArray).push (UInt8.ofNat n.toNat) = ⟨(acc ++ [UInt8.ofNat n.toNat]).toArray⟩ := by
      simp [ByteArray.push]
    rw [List.foldl_cons, this, ih]
    simp
theorem run_bytes {els : List (List PV)} (k off cap : Nat) (hb : ∀ el ∈ els, isByte el)
    (hc : ∀ (i : Nat) el x, els[i]? = some el → el[0]? = some x → ∃ u, w.cell? ⟨k, off + i, none⟩ = some u ∧ RepP w S x u) :
    (Conv.bytesToString (.slice (some ⟨k, off, none⟩) els.length cap)).run P w = .ok (.string (elsBytes els)) w := by
  let ns : List Int := els.map fun el => match el with | [.lit (.int .u8 n)] => n | _ => 0
  have hn : (loadCells ⟨k, off, none⟩ els.length).run P w = .ok (ns.map (Value.int .u8)).toArray w := by
    have := run_loadCells_list (P := P) w ⟨k, off, none⟩ (ns.map (Value.int .u8)) (fun j v hj => by
      rw [Addr.add_plain]
      simp only [ns, List.map_map, List.getElem?_map] at hj
      cases he : els[j]? with
      | none => simp [he] at hj
      | some el =>
        obtain ⟨n, rfl⟩ := hb el (List.mem_of_getElem? he)
        obtain ⟨u, q1, q2⟩ := hc j _ _ he rfl
        cases q2
        simp [he] at hj
        rw [q1, hj])
    simpa [ns] using this
  rw [run_bytesToString w ⟨k, off, none⟩ els.length cap ns hn]
  have := foldl_push ns []
  rw [show (⟨([] : List UInt8).toArray⟩ : ByteArray) = ByteArray.empty from rfl] at this
  rw [this]
  have hm : (ns.map fun n => UInt8.ofNat n.toNat) = els.map byteOf := by
    simp only [ns, List.map_map]
    apply List.map_congr_left
    intro el hel
    obtain ⟨n, rfl⟩ := hb el hel
    rfl
  rw [List.nil_append, hm]
  rfl
theorem freeze_alloc (w : World) (c : Array Value) (ty : TypeId) (n : Nat) : (w.alloc (.cells c ty)).freeze ⟨w.heap.size, n, none⟩ 1 = w.alloc (.cells c ty (n, n + 1)) := by
  simp only [World.freeze, World.alloc]
  rw [if_neg (by omega)]
  congr 1
  apply Array.ext
  · simp
  · intro i h1 h2
    simp only [Array.getElem_modify, Array.getElem_push]
    split
    · rename_i e
      subst e
      simp
    · rename_i hne
      have hi : i < w.heap.size := by simp at h2; omega
      rw [dif_pos hi, dif_pos hi]
theorem run_stringToBytes (e : TypeId) (s : ByteArray) :
    ∃ cap, s.size ≤ cap ∧ (Conv.stringToBytes e s).run P w = .ok (.slice (some ⟨w.heap.size, 0, none⟩) s.size cap) (w.drew.alloc (.cells ((s.data.map fun b => Value.int .u8 b.toNat) ++ Array.replicate (cap - s.size) (.int .u8 0)) e (cap, cap + 1))) := by
  refine ⟨(Question.appendCap s.size 0 e).cut (w.tape w.drawn (.appendCap s.size 0 e)), by simp only [Question.cut]; omega, ?_⟩
  generalize hcap : (Question.appendCap s.size 0 e).cut (w.tape w.drawn (.appendCap s.size 0 e)) = cap
  have hle : s.size ≤ cap := by rw [← hcap]; simp only [Question.cut]; omega
  have hsz : ((s.data.map fun b => Value.int .u8 b.toNat) ++ Array.replicate (cap - s.size) (Value.int .u8 0)).size = cap := by
    rw [Array.size_append, Array.size_map, Array.size_replicate]
    have : s.data.size = s.size := rfl
    omega
  have h1 : (choose (.appendCap s.size 0 e)).run P w = .ok cap w.drew := by
    simp only [choose, Sem.run, Question.forced, hcap]
    rfl
  simp only [Conv.stringToBytes, Sem.run_bind, h1, Result.andThen_ok, newRow, newObj, Sem.run, Sem.run_pure, markStringish, shape]
  have h2 : World.shape? (w.drew.alloc (.cells ((s.data.map fun b => Value.int .u8 b.toNat) ++ Array.replicate (cap - s.size) (Value.int .u8 0)) e)) w.heap.size = some (e, cap) := by
    simp only [World.shape?]
    rw [show (w.drew.alloc (.cells ((s.data.map fun b => Value.int .u8 b.toNat) ++ Array.replicate (cap - s.size) (Value.int .u8 0)) e)).heap[w.heap.size]? = some (.cells ((s.data.map fun b => Value.int .u8 b.toNat) ++ Array.replicate (cap - s.size) (Value.int .u8 0)) e) from Array.getElem?_push_size]
    simp only [hsz]
  have h3 := freeze_alloc w.drew ((s.data.map fun b => Value.int .u8 b.toNat) ++ Array.replicate (cap - s.size) (Value.int .u8 0)) e cap
  simp only [World.alloc] at h2 h3 ⊢
  rw [show w.drew.heap = w.heap from rfl] at h2 h3 ⊢
  simp only [h2, freeze, Sem.run, Result.andThen_ok, h3]
theorem aconv_sound (h : RelOf X A σ S st a w) {x : Nat} (hx : ¬ A x) {src dst : TypeId} {y : Operand} {e : E} (he : aconv P st x src dst y = some e) (hp : e.pre) :
    Does P X (fun b => A b ∨ b = x) st e a w (do pure (.value (← convert src dst (a.eval y)))) := by
  unfold aconv at he
  split at he
  · rename_i s e' hy h1 h2
    split at he
    · rename_i h3
      cases he
      rw [lit_inv (ev_sound h hy).1 rfl]
      obtain ⟨cap, hcap, hr⟩ := run_stringToBytes (P := P) (w := w) e' s
      have hl : (bytesEls s).length = s.size := by simp [bytesEls]
      have hc : ((s.data.map fun b => Value.int .u8 b.toNat) ++ Array.replicate (cap - s.size) (Value.int .u8 0)).size = cap := by
        rw [Array.size_append, Array.size_map, Array.size_replicate]
        have : s.data.size = s.size := rfl
        omega
      have hrow : ∀ (i : Nat) el, (bytesEls s)[i]? = some el → el.length = 1 ∧ ∀ (j : Nat) z, el[j]? = some z → ∃ v, ((s.data.map fun b => Value.int .u8 b.toNat) ++ Array.replicate (cap - s.size) (Value.int .u8 0))[i * 1 + j]? = some v ∧ RepP w.drew S z v := by
        intro i el hi
        simp only [bytesEls, List.getElem?_map] at hi
        cases hb : s.data.toList[i]? with
        | none => simp [hb] at hi
        | some b =>
          simp only [hb, Option.map_some, Option.some.injEq] at hi
          subst hi
          refine ⟨rfl, fun j z hj => ?_⟩
          cases j with
          | succ j => simp at hj
          | zero =>
            simp at hj
            subst hj
            have hil : i < s.data.size := by have := (List.getElem?_eq_some_iff.1 hb).1; simpa using this
            have hbi : s.data[i]? = some b := by simpa using hb
            refine ⟨.int .u8 b.toNat, ?_, .lit _⟩
            rw [Nat.mul_one, Nat.add_zero, Array.getElem?_append_left (by simpa using hil), Array.getElem?_map, hbi]
            rfl
      obtain ⟨σ', g1, g2⟩ := new_arr h.drew x hx e' (bytesEls s) 1 cap (cap, cap + 1) _ (by intro o ho; rw [hc] at ho; simp; omega) (by rw [hc]; omega) (by omega) hrow (by
        intro v hv
        rcases Array.mem_append.1 hv with hv | hv
        · obtain ⟨b, _, rfl⟩ := Array.mem_map.1 hv; rfl
        · obtain ⟨_, rfl⟩ := Array.mem_replicate.1 hv; rfl)
      rw [hl] at g2
      refine ⟨.value _, _, _, σ', S, ?_, .inl rfl, g1, .one g2, .one (.inr rfl)⟩
      simp only [convert, Sem.run_bind, run_underlying h1, run_underlying h2, Result.andThen_ok, run_underlying h3, hr, Sem.run_pure]
      rfl
    · cases he
  · rename_i els e' hy h1 h2
    split at he
    · rename_i h3
      cases he
      obtain ⟨hv, hA⟩ := ev_sound h hy
      generalize a.eval y = z at hv ⊢
      refine Does.weak ?_ (fun b hb => .inl hb)
      refine Does.value h (v := .string (elsBytes els)) ?_ (.one (.p (.lit _))) (.one trivial)
      simp only [convert, Sem.run_bind, run_underlying h1, run_underlying h2, Result.andThen_ok]
      cases hv with
      | one hv => cases hv with
        | p hv => cases hv with
          | nil a' cap =>
            cases a' with
            | none => simp only [Sem.run_bind, run_underlying h3, Result.andThen_ok]; rfl
            | some ad =>
              have hl0 : (loadCells ad 0).run P w = .ok (([] : List Int).map (Value.int .u8)).toArray w := by simp [loadCells, loadCellsFrom]
              simp only [Sem.run_bind, run_underlying h3, Result.andThen_ok]
              rw [run_bytesToString w ad 0 cap [] hl0]
              rfl
          | sl _ k off sz n cap cf hn hcap hk hsz hc hr =>
            subst hn
            simp only [Sem.run_bind, run_underlying h3, Result.andThen_ok]
            refine run_bytes (S := S) k off cap hp (fun i el x hi hx => ?_)
            obtain ⟨m, rfl⟩ := hp el (List.mem_of_getElem? hi)
            have : sz = 1 := (hsz i _ hi).symm
            subst this
            have := (hc i _ 0 x hi hx).1
            rw [Nat.mul_one, Nat.add_zero] at this
            exact ⟨_, this, hr i _ 0 x hi hx⟩
    · cases he
  · rename_i b lo n e' hy h1 h2
    split at he
    · rename_i els h3 hrd
      cases he
      obtain ⟨hlo, hby⟩ := hp
      obtain ⟨hv, hA⟩ := ev_sound h hy
      generalize a.eval y = z at hv ⊢
      refine Does.weak ?_ (fun b hb => .inl hb)
      refine Does.value h (v := .string (elsBytes ((els.drop lo).take n))) ?_ (.one (.p (.lit _))) (.one trivial)
      simp only [convert, Sem.run_bind, run_underlying h1, run_underlying h2, Result.andThen_ok]
      have hlen : ((els.drop lo).take n).length = n := by simp; omega
      cases hv with
      | one hv => cases hv with
        | hs0 _ _ a' =>
          cases a' with
          | none => simp only [Sem.run_bind, run_underlying h3, Result.andThen_ok]; rfl
          | some ad =>
            have hl0 : (loadCells ad 0).run P w = .ok (([] : List Int).map (Value.int .u8)).toArray w := by simp [loadCells, loadCellsFrom]
            simp only [Sem.run_bind, run_underlying h3, Result.andThen_ok]
            rw [run_bytesToString w ad 0 0 [] hl0, List.take_zero]
            rfl
        | hs _ _ _ cap hcap hn =>
          simp only [Sem.run_bind, run_underlying h3, Result.andThen_ok]
          obtain ⟨c, ty, fr, g1, g0, g2, g3, g6, g4, g5⟩ := h.blks b _ hrd
          have := run_bytes (P := P) (w := w) (S := S) (els := (els.drop lo).take n) (σ b).k (lo * (σ b).sz) cap hby (fun i el x hi hx => by
            rw [List.getElem?_take] at hi
            split at hi
            · rw [List.getElem?_drop] at hi
              obtain ⟨v, q1, q2⟩ := (g5 _ el hi).2 0 x hx
              rw [g6, Nat.mul_one, Nat.add_zero] at q1
              exact ⟨v, by rw [World.cell_of g1, g6, Nat.mul_one]; exact q1, q2⟩
            · cases hi)
          rw [hlen] at this
          exact this
    · cases he
  · rename_i v d1 d2 _ hy h1 h2
    rw [lit_inv (ev_sound h hy).1 rfl]
    cases hr : pureRun P (convert src dst v) with
    | none => simp [hr] at he
    | some r =>
      simp only [hr, Option.map_some, Option.some.injEq] at he
      subst he
      exact (Does.value h (pureRun_run _ _ hr w) (.one (.p (.lit _))) (.one trivial)).weak (fun b hb => .inl hb)
  · cases he
def evs (st : St) : List Operand → Option (List AV)
  | [] => some []
  | x :: xs => match ev st x, evs st xs with
    | some v, some vs => some (v :: vs)
    | _, _ => none
theorem evs_sound (h : RelOf X A σ S st a w) : ∀ {xs : List Operand} {vs : List AV} (_ : evs st xs = some vs), vs.length = (xs.map a.eval).length ∧ (∀ (i : Nat) v u, vs[i]? = some v → (xs.map a.eval)[i]? = some u → RepV w S σ v u) ∧ ∀ v ∈ vs, v.InA A
  | [], vs, he => by cases he; exact ⟨rfl, fun i v u h1 => by simp at h1, fun v hv => by cases hv⟩
  | x :: xs, vs, he => by
    simp only [evs] at he
    split at he
    · rename_i v vs' hx hxs
      cases he
      obtain ⟨g1, g2, g3⟩ := evs_sound h hxs
      refine ⟨by simpa using g1, ?_, ?_⟩
      · intro i v' u h1 h2
        cases i with
        | zero => cases h1; cases h2; exact (ev_sound h hx).1
        | succ i => exact g2 i v' u h1 h2
      · intro v' hv'
        rcases List.mem_cons.1 hv' with rfl | hv'
        · exact (ev_sound h hx).2
        · exact g3 v' hv'
    · cases he
def onesOf : List AV → Option (List AC)
  | [] => some []
  | .one c :: vs => (onesOf vs).map (c :: ·)
  | _ :: _ => none
theorem onesOf_sound : ∀ {vs : List AV} {cs : List AC} {us : List Value} (_ : onesOf vs = some cs) (_ : ∀ (i : Nat) v u, vs[i]? = some v → us[i]? = some u → RepV w S σ v u) (_ : ∀ v ∈ vs, v.InA A),
    cs.length = vs.length ∧ (∀ (i : Nat) c u, cs[i]? = some c → us[i]? = some u → RepC w S σ c u) ∧ ∀ c ∈ cs, c.inA A
  | [], cs, us, ho, _, _ => by cases ho; exact ⟨rfl, fun i c u h1 => by simp at h1, fun c hc => by cases hc⟩
  | v :: vs, cs, us, ho, hr, hA => by
    cases v with
    | one c =>
      simp only [onesOf] at ho
      cases hq : onesOf vs with
      | none => simp [hq] at ho
      | some ds =>
        simp only [hq, Option.map_some, Option.some.injEq] at ho
        subst ho
        obtain ⟨g1, g2, g3⟩ := onesOf_sound (us := us.tail) hq (fun i v u h1 h2 => hr (i + 1) v u h1 (by simpa using h2)) (fun v hv => hA v (List.mem_cons_of_mem _ hv))
        refine ⟨by simpa using g1, ?_, ?_⟩
        · intro i d u h1 h2
          cases i with
          | zero =>
            cases h1
            have := hr 0 _ u rfl h2
            cases this with | one q => exact q
          | succ i => exact g2 i d u h1 (by simpa using h2)
        · intro d hd
          rcases List.mem_cons.1 hd with rfl | hd
          · have := hA _ (List.mem_cons_self ..); cases this with | one q => exact q
          · exact g3 d hd
    | _ => cases ho
def amin (P : Program) (st : St) (b : Builtin) (ats : Array TypeId) (ty : TypeId) (consts : Array Bool) (args : Array Operand) : Option E :=
  match evs st args.toList with
  | some vs => match onesOf vs with
    | some cs => match litsOf cs with
      | some us => match pureRun P (builtin b ats ty consts us.toArray) with
        | some (.value r) => some ⟨True, lit r, []⟩
        | _ => none
      | none => none
    | none => none
  | none => none
theorem amin_sound (h : RelOf X A σ S st a w) {b : Builtin} {ats : Array TypeId} {ty : TypeId} {consts : Array Bool} {args : Array Operand} {e : E} (he : amin P st b ats ty consts args = some e) :
    Does P X A st e a w (builtin b ats ty consts (args.map a.eval)) := by
  unfold amin at he
  split at he
  · rename_i vs hvs
    split at he
    · rename_i cs hcs
      split at he
      · rename_i us hus
        split at he
        · rename_i r hr
          cases he
          obtain ⟨g1, g2, g3⟩ := evs_sound h hvs
          obtain ⟨f1, f2, f3⟩ := onesOf_sound hcs g2 g3
          have heq := litsOf_sound hus (f1.trans g1) f2
          have : args.map a.eval = us.toArray := by rw [← heq]; apply Array.ext'; simp
          rw [this]
          exact ⟨.value r, r, w, σ, S, pureRun_run _ _ hr w, .inl rfl, h, .one (.p (.lit _)), .one trivial⟩
        · cases he
      · cases he
    · cases he
  · cases he
def aclo (st : St) (f : FuncId) (caps : Array Operand) : Option E :=
  match evs st caps.toList with
  | some vs => match onesOf vs with
    | some cs => some ⟨True, .clo f cs, []⟩
    | none => none
  | none => none
theorem aclo_sound (h : RelOf X A σ S st a w) {f : FuncId} {caps : Array Operand} {e : E} (he : aclo st f caps = some e) :
    Does P X A st e a w (do pure (.value (← Instr.makeFunc (.func f) #[] (caps.map a.eval)))) := by
  unfold aclo at he
  split at he
  · rename_i vs hvs
    split at he
    · rename_i cs hcs
      cases he
      obtain ⟨g1, g2, g3⟩ := evs_sound h hvs
      obtain ⟨f1, f2, f3⟩ := onesOf_sound hcs g2 g3
      exact Does.value h (v := .func (.func f) #[] (caps.map a.eval)) rfl (.clo f cs _ (by rw [f1, g1]; simp) (fun i c u h1 h2 => f2 i c u h1 (by simpa using h2))) (.clo f3)
    · cases he
  · cases he
/-- What an operation does, calls apart. x: the name that a new block gets. -/
def aop (P : Program) (st : St) (x : Nat) (o : Oper) : Option E :=
  match o.op with
  | .move y | .assign y => amove st y
  | .pick c y z => apick st c y z
  | .alloc t => aalloc P x t
  | .box _ y => abox st x y
  | .build t ps => abuild P st t ps
  | .buildSlice t n ps => abuildSlice P st x t n ps
  | .load t y => aload P st t y
  | .store t y z => astore P st t y z
  | .nilCheck y => anil st y
  | .binOp op t y z _ => abin P st op t y z
  | .unOp op _ y => aun P st op y
  | .convert s d y => aconv P st x s d y
  | .makeSlice t y z => amake P st x t y z
  | .slice t y l h m => aslice P st t y l h m
  | .fieldAddr s y f => afieldAddr P st s y f
  | .field s y f => afield P st s y f
  | .indexAddr t y i => aindexAddr P st t y i
  | .index t y i => aindex P st t y i
  | .extract y i => aextract st y i
  | .makeFunc (.func f) first caps => if first.size = 0 then aclo st f caps else none
  | .call { callee := .builtin b, args, argTypes } => match b with
    | .len => match args[0]?, argTypes[0]? with
      | some y, some t => alen P st t y
      | _, _ => none
    | .append => match args.toList, argTypes.toList with
      | [y, z], [t, tx] => aappend P st x t tx y z
      | _, _ => none
    | .min | .max => amin P st b argTypes o.type (args.map fun | .const _ => true | _ => false) args
    | _ => none
  | _ => none
theorem aop_sound (h : RelOf X A σ S st a w) {x : Nat} (hx : ¬ A x) {o : Oper} {e : E} (he : aop P st x o = some e) (hp : e.pre) : Does P X (fun b => A b ∨ b = x) st e a w (execOp a.eval o) := by
  have wk : ∀ {s : Sem Next}, Does P X A st e a w s → Does P X (fun b => A b ∨ b = x) st e a w s := fun q => q.weak fun b hb => .inl hb
  obtain ⟨dst, op, type, pos, after, guard⟩ := o
  unfold aop at he
  cases op <;> simp only at he
  case move y => exact wk (amove_sound h he)
  case assign y => exact wk (amove_sound h he)
  case pick c y z => exact wk (apick_sound h he)
  case alloc t => exact aalloc_sound h hx he hp
  case box t y => exact abox_sound h hx he hp
  case build t ps => exact wk (abuild_sound h he hp)
  case buildSlice t n ps => exact abuildSlice_sound h hx he hp
  case load t y => exact wk (aload_sound h he hp)
  case store t y z => exact wk (astore_sound h he hp)
  case nilCheck y => exact wk (anil_sound h rfl he)
  case binOp op t y z ty => exact wk (abin_sound h he hp)
  case unOp op t y => exact wk (aun_sound h he)
  case convert s d y => exact aconv_sound h hx he hp
  case makeSlice t y z => exact amake_sound h hx he hp
  case slice t y l hh m => exact wk (aslice_sound h he hp)
  case fieldAddr s y f => exact wk (afieldAddr_sound h he hp)
  case field s y f => exact wk (afield_sound h he hp)
  case indexAddr t y i => exact wk (aindexAddr_sound h he hp)
  case index t y i => exact wk (aindex_sound h he hp)
  case extract y i => exact wk (aextract_sound h he)
  case makeFunc fn first caps =>
    cases fn <;> simp only at he
    case func f =>
      split at he
      · rename_i hf
        have : first = #[] := Array.eq_empty_of_size_eq_zero hf
        subst this
        have := aclo_sound (P := P) h he
        refine wk ?_
        simp only [execOp, Array.map_empty]
        exact this
      · cases he
    all_goals cases he
  case call c =>
    obtain ⟨callee, args, ats⟩ := c
    cases callee <;> simp only at he
    case builtin b =>
      have hex := exec_builtin (o := ⟨dst, .call { callee := .builtin b, args, argTypes := ats }, type, pos, after, guard⟩) (b := b) (args := args) (ats := ats) rfl a.eval
      rw [hex]
      cases b <;> simp only at he
      case len =>
        split at he
        · rename_i y t hy ht
          exact wk (alen_sound h he ats type ht _ (by rw [Array.getElem?_map, hy]; rfl))
        · cases he
      case append =>
        split at he
        · rename_i y z t tx hy ht
          have e1 : args = #[y, z] := Array.ext' hy
          have e2 : ats = #[t, tx] := Array.ext' ht
          subst e1; subst e2
          have := aappend_sound (ty := type) h hx he hp
          simp only [List.map_toArray, List.map_cons, List.map_nil]
          exact this
        · cases he
      case min => exact wk (amin_sound h he)
      case max => exact wk (amin_sound h he)
      all_goals cases he
    all_goals cases he
  all_goals cases he
end Go.Abs
