import Derived.Test.YtmieklaakjabaaaGreatGAbs20
import Derived.ProofKit
import Derived.OpenShut
import Derived.ShutString
import Derived.ChangeArms
import Derived.Deep.Slices
import Derived.DataElems
set_option linter.unusedSimpArgs false
set_option linter.unusedVariables false
namespace Go.Abs
open Go Go.RowKit Go.ChangeShapes Go.WideShapes
variable {P : Program}
/-! ### how an argument reads -/
/-- The blocks below n are settled. -/
def Sz (n : Nat) : Kx → Prop
  | .m k => k < n
  | .t _ _ => False
theorem Sz.free (n : Nat) : Free (Sz n) := fun _ _ h => h
theorem Sz.lt {n : Nat} : ∀ k, Sz n k → k.b < n
  | .m _, h => h
  | .t _ _, h => h.elim
def Rep0 (w : World) (p : PV) (v : Value) : Prop := RepP w (Sz w.heap.size) p v
structure Rd {α : Type} (P : Program) (t : TypeId) (n : Nat) (enc : α → List PV) (ok : α → Prop) : Prop where
  sz : P.cellsOf t = n
  len : ∀ a, (enc a).length = n
  read : ∀ {H : Type} {e : TypeId × Value → H} {w : World} {base : Nat} {spare : Nat → Bool} {held : Bool} {fuel : Nat} {cs : List Value} {x : DataW H × List MemPlace},
    DataW.trod e P w base spare held fuel t cs = some x → ∃ a, ok a ∧ cs.length = n ∧ (∀ v ∈ cs, v.oneCell' = true) ∧ ∀ (i : Nat) (p : PV) (v : Value), (enc a)[i]? = some p → cs[i]? = some v → Rep0 w p v
section
variable {t : TypeId}
theorem one_lit {w : World} {u : Value} : ∀ (i : Nat) (p : PV) (v : Value), [PV.lit u][i]? = some p → [u][i]? = some v → Rep0 w p v := by
  intro i p v h1 h2
  cases i with
  | zero => cases h1; cases h2; exact .lit _
  | succ i => simp at h1
theorem Rd.int {k : IntKind} (ht : P.underlying t = some (.int k)) (hc : P.cellsOf t = 1) : Rd P t 1 (fun n : Int => [.lit (.int k n)]) (fun n => (Lit.int k n).wf = true) :=
  ⟨hc, fun _ => rfl, fun h => by
    obtain ⟨n, rfl, _, hw⟩ := DataW.trod_int ht h
    exact ⟨n, hw, rfl, by simp [Value.oneCell'], one_lit⟩⟩
theorem Rd.bool (ht : P.underlying t = some .bool) (hc : P.cellsOf t = 1) : Rd P t 1 (fun b : Bool => [.lit (.bool b)]) (fun _ => True) :=
  ⟨hc, fun _ => rfl, fun h => by
    obtain ⟨n, rfl, _⟩ := DataW.trod_bool ht h
    exact ⟨n, trivial, rfl, by simp [Value.oneCell'], one_lit⟩⟩
theorem Rd.string (ht : P.underlying t = some .string) (hc : P.cellsOf t = 1) : Rd P t 1 (fun s : ByteArray => [.lit (.string s)]) (fun s => s.size ≤ 9223372036854775807) :=
  ⟨hc, fun _ => rfl, fun h => by
    obtain ⟨n, rfl, _, hw⟩ := DataW.trod_string ht h
    exact ⟨n, hw, rfl, by simp [Value.oneCell'], one_lit⟩⟩
theorem Rd.via {α β : Type} {n : Nat} {enc : α → List PV} {ok : α → Prop} (r : Rd P t n enc ok) (g : β → α) (f : α → β) (hf : ∀ a, g (f a) = a) : Rd P t n (fun b => enc (g b)) (fun b => ok (g b)) :=
  ⟨r.sz, fun b => r.len _, fun h => let ⟨a, h1, h2, h3, h4⟩ := r.read h; ⟨f a, by rw [hf]; exact h1, h2, h3, by rw [hf]; exact h4⟩⟩
/-- The fields of a struct from one on. -/
structure FRd {α : Type} (P : Program) (off : Nat) (fs : List Field) (n : Nat) (enc : α → List PV) (ok : α → Prop) : Prop where
  len : ∀ a, (enc a).length = n
  read : ∀ {H : Type} {e : TypeId × Value → H} {w : World} {base : Nat} {spare : Nat → Bool} {held : Bool} {m : Nat} {cs : List Value},
    cs.length = off + n → (∀ f ∈ fs, ∃ y, DataW.trod e P w base spare held m f.type ((cs.drop f.offset).take (P.cellsOf f.type)) = some y) →
    ∃ a, ok a ∧ (∀ v ∈ cs.drop off, v.oneCell' = true) ∧ ∀ (i : Nat) (p : PV) (v : Value), (enc a)[i]? = some p → (cs.drop off)[i]? = some v → Rep0 w p v
theorem FRd.last {α : Type} {n : Nat} {enc : α → List PV} {ok : α → Prop} {off : Nat} {f : Field} (ho : f.offset = off) (r : Rd P f.type n enc ok) : FRd P off [f] n enc ok := by
  refine ⟨r.len, fun {H e w base spare held m cs} hl hf => ?_⟩
  obtain ⟨y, hy⟩ := hf f (by simp)
  rw [ho, r.sz] at hy
  have : (cs.drop off).take n = cs.drop off := List.take_of_length_le (by rw [List.length_drop]; omega)
  rw [this] at hy
  obtain ⟨a, h1, _, h3, h4⟩ := r.read hy
  exact ⟨a, h1, h3, h4⟩
theorem FRd.cons {α β : Type} {n m : Nat} {a : α → List PV} {b : β → List PV} {oka : α → Prop} {okb : β → Prop} {off : Nat} {f : Field} {fs : List Field} (ho : f.offset = off) (r : Rd P f.type n a oka) (rs : FRd P (off + n) fs m b okb) :
    FRd P off (f :: fs) (n + m) (fun x : α × β => a x.1 ++ b x.2) (fun x => oka x.1 ∧ okb x.2) := by
  refine ⟨fun x => by rw [List.length_append, r.len, rs.len], fun {H e w base spare held k cs} hl hf => ?_⟩
  obtain ⟨y, hy⟩ := hf f (by simp)
  rw [ho, r.sz] at hy
  obtain ⟨x, h1, h2, h3, h4⟩ := r.read hy
  obtain ⟨z, g1, g3, g4⟩ := rs.read (by omega) (fun g hg => hf g (by simp [hg]))
  have hsplit : cs.drop off = (cs.drop off).take n ++ cs.drop (off + n) := by rw [← List.drop_drop]; exact (List.take_append_drop _ _).symm
  refine ⟨(x, z), ⟨h1, g1⟩, ?_, ?_⟩
  · intro v hv
    rw [hsplit] at hv
    rcases List.mem_append.1 hv with hv | hv
    · exact h3 v hv
    · exact g3 v hv
  · intro i p v hp hv
    rw [hsplit] at hv
    by_cases hi : i < n
    · rw [List.getElem?_append_left (by rw [r.len]; exact hi)] at hp
      rw [List.getElem?_append_left (by rw [h2]; exact hi)] at hv
      exact h4 i p v hp hv
    · rw [List.getElem?_append_right (by rw [r.len]; omega), r.len] at hp
      rw [List.getElem?_append_right (by rw [h2]; omega), h2] at hv
      exact g4 _ p v hp hv
theorem Rd.struct {α : Type} {n : Nat} {enc : α → List PV} {ok : α → Prop} {fs : List Field} (ht : P.underlying t = some (.struct fs.toArray)) (hc : P.cellsOf t = n) (r : FRd P 0 fs n enc ok) : Rd P t n enc ok := by
  refine ⟨hc, r.len, fun {H e w base spare held fuel cs x} h => ?_⟩
  obtain ⟨xs, m, _, _, hl, hlen, hf⟩ := DataW.trod_struct ht h
  obtain ⟨a, h1, h3, h4⟩ := r.read (e := e) (w := w) (base := base) (spare := spare) (held := held) (m := m) (cs := cs) (by rw [hl, hc]; omega) (fun f hf' => by
    obtain ⟨i, hi, he⟩ := List.mem_iff_getElem.1 hf'
    have e : fs.toArray[i]? = some f := by
      rw [List.getElem?_toArray, List.getElem?_eq_getElem hi]
      exact congrArg some he
    have := hf i f e
    rw [List.getElem?_eq_getElem (by rw [hlen]; simpa using hi)] at this
    exact ⟨_, this⟩)
  rw [List.drop_zero] at h3 h4
  exact ⟨a, h1, by rw [hl, hc], h3, h4⟩
theorem cell_spot {w : World} {a : Addr} {v : Value} (h : w.cell? a = some v) : a.spot = none ∧ a.block < w.heap.size := by
  unfold World.cell? at h
  split at h
  · rename_i c _ _ hb
    split at h
    · cases h
    · rename_i hs
      exact ⟨by simpa using hs, (Array.getElem?_eq_some_iff.1 hb).1⟩
  · cases h
theorem Rd.slice {α : Type} {n : Nat} {enc : α → List PV} {ok : α → Prop} {e : TypeId} (ht : P.underlying t = some (.slice e)) (hc : P.cellsOf t = 1) (hn : 0 < n) (r : Rd P e n enc ok) :
    Rd P t 1 (fun l : List α => [.sl (l.map enc)]) (fun xs => xs.length ≤ 9223372036854775807 ∧ ∀ x ∈ xs, ok x) := by
  refine ⟨hc, fun _ => rfl, fun {H en w base spare held fuel cs x} h => ?_⟩
  have wrap : ∀ {p : PV} {u : Value}, Rep0 w p u → ∀ (i : Nat) (q : PV) (v : Value), [p][i]? = some q → [u][i]? = some v → Rep0 w q v := by
    intro p u hr i q v h1 h2
    cases i with
    | zero => cases h1; cases h2; exact hr
    | succ i => simp at h1
  rcases Go.Deep.open_slice ht h with ⟨rfl, _⟩ | ⟨a, len, cap, m, k, D, Pl, rfl, hb, hl, hm, hmm, _, hx⟩
  · exact ⟨[], by simp, rfl, by simp [Value.oneCell'], wrap (.nil _ _)⟩
  · have hle : len ≤ m := by rw [hmm]; split <;> omega
    have hall : ∀ i : Fin len, ∃ y : α × List Value, w.cells? base (a.add (i * P.cellsOf e)) (P.cellsOf e) = some y.2 ∧ ok y.1 ∧ y.2.length = n ∧ (∀ v ∈ y.2, v.oneCell' = true) ∧ ∀ (j : Nat) (p : PV) (v : Value), (enc y.1)[j]? = some p → y.2[j]? = some v → Rep0 w p v := fun i => by
      obtain ⟨cs', h1, h2⟩ := hx i (by omega)
      obtain ⟨y, q1, q2, q3, q4⟩ := r.read h2
      exact ⟨(y, cs'), h1, q1, q2, q3, q4⟩
    have hspec := fun i => Classical.choose_spec (hall i)
    generalize hF : (fun i => Classical.choose (hall i)) = F at *
    have hF' : ∀ i, Classical.choose (hall i) = F i := fun i => congrFun hF i
    have hc' : ∀ i : Fin len, w.cells? base (a.add (i * P.cellsOf e)) (P.cellsOf e) = some (F i).2 ∧ ok (F i).1 ∧ (F i).2.length = n ∧ (∀ v ∈ (F i).2, v.oneCell' = true) ∧ ∀ (j : Nat) (p : PV) (v : Value), (enc (F i).1)[j]? = some p → (F i).2[j]? = some v → Rep0 w p v := fun i => by rw [← hF' i]; exact hspec i
    clear hspec hF'
    have hlen : (List.ofFn fun i => (F i).1).length = len := by simp
    have hm' : len ≤ 9223372036854775807 := Nat.le_trans hl hm
    refine ⟨List.ofFn fun i => (F i).1, ⟨by rw [hlen]; exact hm', fun x hx => by rw [List.mem_ofFn] at hx; obtain ⟨i, rfl⟩ := hx; exact (hc' i).2.1⟩, rfl, by simp [Value.oneCell'], wrap ?_⟩
    by_cases h0 : len = 0
    · subst h0
      have : (List.ofFn fun i => (F i).1) = [] := List.eq_nil_of_length_eq_zero hlen
      rw [this]
      exact .nil _ _
    have cellv : ∀ (i : Nat) (hi : i < len) (j : Nat), j < n → ∃ v, (F ⟨i, hi⟩).2[j]? = some v ∧ w.cell? (a.add (i * n + j)) = some v := by
      intro i hi j hj
      obtain ⟨h1, _, h3, _⟩ := hc' ⟨i, hi⟩
      obtain ⟨_, _, hcell⟩ := World.cells?_some h1
      rw [r.sz] at hcell
      have := hcell j hj
      rw [Addr.add_add] at this
      refine ⟨_, List.getElem?_eq_getElem (by rw [h3]; exact hj), ?_⟩
      rw [this, List.getElem?_eq_getElem (by rw [h3]; exact hj)]
    obtain ⟨v0, _, hv0⟩ := cellv 0 (by omega) 0 hn
    have ha0 : a.add (0 * n + 0) = a := by simp [Addr.add]
    rw [ha0] at hv0
    obtain ⟨hsp, hblk⟩ := cell_spot hv0
    obtain ⟨ab, ao, as⟩ := a
    simp only at hsp hblk
    subst hsp
    have hadd : ∀ q, Addr.add ⟨ab, ao, none⟩ q = ⟨ab, ao + q, none⟩ := by intro q; unfold Addr.add; split <;> simp_all
    refine .sl _ ab ao n len cap (fun i j => if h : i < len then ((F ⟨i, h⟩).2)[j]?.getD undef else undef) (by simp) hl hblk ?_ ?_ ?_ ?_
    · intro i el hi
      rw [List.getElem?_map] at hi
      cases hq : (List.ofFn fun i => (F i).1)[i]? with
      | none => simp [hq] at hi
      | some y => simp only [hq, Option.map_some, Option.some.injEq] at hi; rw [← hi]; exact r.len y
    · intro i el j x hi hj
      rw [List.getElem?_map] at hi
      cases hq : (List.ofFn fun i => (F i).1)[i]? with
      | none => simp [hq] at hi
      | some y =>
        simp only [hq, Option.map_some, Option.some.injEq] at hi
        obtain ⟨hil, hy⟩ := List.getElem?_eq_some_iff.1 hq
        rw [hlen] at hil
        have hjn : j < n := by rw [← r.len y, hi]; exact (List.getElem?_eq_some_iff.1 hj).1
        obtain ⟨v, q1, q2⟩ := cellv i hil j hjn
        rw [hadd] at q2
        simp only [dif_pos hil, q1, Option.getD_some]
        exact ⟨q2, (hc' ⟨i, hil⟩).2.2.2.1 v (List.mem_of_getElem? q1)⟩
    · intro i el j x hi hj
      rw [List.getElem?_map] at hi
      cases hq : (List.ofFn fun i => (F i).1)[i]? with
      | none => simp [hq] at hi
      | some y =>
        simp only [hq, Option.map_some, Option.some.injEq] at hi
        obtain ⟨hil, hy⟩ := List.getElem?_eq_some_iff.1 hq
        rw [hlen] at hil
        have hy' : (F ⟨i, hil⟩).1 = y := by rw [← hy, List.getElem_ofFn]
        have hjn : j < n := by rw [← r.len y, hi]; exact (List.getElem?_eq_some_iff.1 hj).1
        obtain ⟨v, q1, q2⟩ := cellv i hil j hjn
        simp only [dif_pos hil, q1, Option.getD_some]
        exact (hc' ⟨i, hil⟩).2.2.2.2 j x v (by rw [hy', hi]; exact hj) q1
    · intro i el j x hi hj
      rw [List.getElem?_map] at hi
      cases hq : (List.ofFn fun i => (F i).1)[i]? with
      | none => simp [hq] at hi
      | some y =>
        simp only [hq, Option.map_some, Option.some.injEq] at hi
        obtain ⟨hil, hy⟩ := List.getElem?_eq_some_iff.1 hq
        rw [hlen] at hil
        have hy' : (F ⟨i, hil⟩).1 = y := by rw [← hy, List.getElem_ofFn]
        have hjn : j < n := by rw [← r.len y, hi]; exact (List.getElem?_eq_some_iff.1 hj).1
        obtain ⟨v, q1, q2⟩ := cellv i hil j hjn
        exact RepP.notOwn (Sz.free _) ((hc' ⟨i, hil⟩).2.2.2.2 j x v (by rw [hy', hi]; exact hj) q1)
end
/-! ### from a contract to a row -/
theorem repV_one {w : World} {σ : Nat → Loc} {p : PV} {v : Value} (h : Rep0 w p v) : RepV w (Sz w.heap.size) σ (.one (.p p)) v := .one (.p h)
theorem repV_agg {w : World} {σ : Nat → Loc} {ps : List PV} {cs : Array Value} (hl : cs.toList.length = ps.length) (h : ∀ (i : Nat) (p : PV) (v : Value), ps[i]? = some p → cs.toList[i]? = some v → Rep0 w p v) :
    RepV w (Sz w.heap.size) σ (.agg (ps.map .p)) (.agg cs) := by
  refine .agg _ _ (by rw [List.length_map, ← hl, Array.length_toList]) fun i c v h1 h2 => ?_
  rw [List.getElem?_map] at h1
  cases hq : ps[i]? with
  | none => simp [hq] at h1
  | some p =>
    simp only [hq, Option.map_some, Option.some.injEq] at h1
    subst h1
    exact .p (h i p v hq (by simpa using h2))
theorem good_calls {f : FuncId} {args : List AV} {out : List Blk} {b : Bool} (h : Good P f args [] (lit (.bool b)) out) {w : World} {vs : Array Value} (hl : args.length = vs.size)
    (hr : ∀ (i : Nat) av v, args[i]? = some av → vs[i]? = some v → ∀ σ, RepV w (Sz w.heap.size) σ av v) (hin : ∀ av ∈ args, av.InA (fun _ => False)) (hG : Glob w (Sz w.heap.size)) :
    Calls P f vs w fun e w' => e = .returned (.bool b) ∧ Below w.heap.size w w' := by
  refine Calls.mono (h w vs (fun _ => ⟨0, 0, 0⟩) (Sz w.heap.size) hl (fun i av v h1 h2 => hr i av v h1 h2 _) (fun av hm => (hin av hm).mono fun _ q => q.elim) (fun b blk q => by simp at q) (fun b b' q => by simp at q) Sz.lt hG (Sz.free _)) ?_
  rintro e w' ⟨v, rfl, σ', S', h1, _, _, _, _, _, _, _, _, hos, htape, hout, hsize, hold, _, _⟩
  have : v = .bool b := lit_inv h1 rfl
  subst this
  exact ⟨rfl, hos, htape, hout, hsize, fun k hk => hold k hk fun b hb => by simp at hb⟩
theorem inA_one {p : PV} {A : Nat → Prop} : AV.InA A (.one (.p p)) := .one trivial
theorem inA_agg {ps : List PV} {A : Nat → Prop} : AV.InA A (.agg (ps.map .p)) := .agg fun c hc => by
  obtain ⟨p, _, rfl⟩ := List.mem_map.1 hc
  trivial
end Go.Abs
