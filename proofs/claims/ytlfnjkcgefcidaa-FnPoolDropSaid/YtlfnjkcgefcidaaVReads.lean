/-
How an argument of a struct's or a slice's type reads: by its type's shape, as the printed texts' kinds tell it.
No conditions: plain lemmas over any program.
-/
import Derived.Test.YtlfnjkcgefcidaaVWords
import Derived.ProofKit
import Derived.OpenShut
import Derived.ShutString
import Derived.ChangeArms
import Derived.Deep.Slices
namespace Go.Proofs.Ytlfnjkcgefcidaa.Rd
open Go.RowKit Go.ChangeShapes Go.WideShapes Go.Proofs.YtlfnjkcgefcidaaW.PrintWords

/-- What reads at type t reads as the kind d tells. -/
structure Rdr {α : Type} (P : Program) (t : TypeId) (d : Kd α) (ok : α → Prop) : Prop where
  sz : P.cellsOf t = d.sz
  read : ∀ {H : Type} {enc : TypeId × Value → H} {w : World} {base : Nat} {spare : Nat → Bool} {held : Bool} {fuel : Nat} {cs : List Value} {x : DataW H × List MemPlace},
    DataW.trod enc P w base spare held fuel t cs = some x → ∃ a, d.K w a cs ∧ ok a

section
variable {P : Program} {t : TypeId}
theorem Rdr.int {k : IntKind} (ht : P.underlying t = some (.int k)) (hc : P.cellsOf t = 1) : Rdr P t (Kd.int k) (fun n => (Lit.int k n).wf = true) := by
  refine ⟨hc, fun h => ?_⟩
  obtain ⟨n, rfl, _, hw⟩ := DataW.trod_int ht h
  exact ⟨n, rfl, hw⟩
theorem Rdr.bool (ht : P.underlying t = some .bool) (hc : P.cellsOf t = 1) : Rdr P t Kd.bool (fun _ => True) := by
  refine ⟨hc, fun h => ?_⟩
  obtain ⟨n, rfl, _⟩ := DataW.trod_bool ht h
  exact ⟨n, rfl, trivial⟩
theorem Rdr.string (ht : P.underlying t = some .string) (hc : P.cellsOf t = 1) : Rdr P t Kd.string (fun s => s.size ≤ 9223372036854775807) := by
  refine ⟨hc, fun h => ?_⟩
  obtain ⟨n, rfl, _, hw⟩ := DataW.trod_string ht h
  exact ⟨n, rfl, hw⟩
theorem Rdr.iso {α β : Type} {d : Kd α} {ok : α → Prop} (r : Rdr P t d ok) (f : β → α) (g : α → β) (h : ∀ a, f (g a) = a) : Rdr P t (Kd.iso d f) (fun b => ok (f b)) := by
  refine ⟨r.sz, fun hx => ?_⟩
  obtain ⟨a, ha, hk⟩ := r.read hx
  refine ⟨g a, ?_, by rw [h]; exact hk⟩
  show d.K _ (f (g a)) _
  rw [h]
  exact ha
/-- The fields of a struct from one on. -/
structure FRdr {α : Type} (P : Program) (off : Nat) (fs : List Field) (d : Kd α) (ok : α → Prop) : Prop where
  read : ∀ {H : Type} {enc : TypeId × Value → H} {w : World} {base : Nat} {spare : Nat → Bool} {held : Bool} {n : Nat} {cs : List Value},
    cs.length = off + d.sz → (∀ f ∈ fs, ∃ y, DataW.trod enc P w base spare held n f.type ((cs.drop f.offset).take (P.cellsOf f.type)) = some y) → ∃ a, d.K w a (cs.drop off) ∧ ok a
theorem FRdr.last {α : Type} {d : Kd α} {ok : α → Prop} {off : Nat} {f : Field} (ho : f.offset = off) (r : Rdr P f.type d ok) : FRdr P off [f] d ok := by
  refine ⟨fun {H enc w base spare held n cs} hl hf => ?_⟩
  obtain ⟨y, hy⟩ := hf f (by simp)
  rw [ho, r.sz] at hy
  have : (cs.drop off).take d.sz = cs.drop off := List.take_of_length_le (by rw [List.length_drop]; omega)
  rw [this] at hy
  exact r.read hy
theorem FRdr.cons {α β : Type} {a : Kd α} {b : Kd β} {oka : α → Prop} {okb : β → Prop} {off : Nat} {f : Field} {fs : List Field} (ho : f.offset = off) (r : Rdr P f.type a oka) (rs : FRdr P (off + a.sz) fs b okb) :
    FRdr P off (f :: fs) (Kd.pair a b) (fun x => oka x.1 ∧ okb x.2) := by
  refine ⟨fun {H enc w base spare held n cs} hl hf => ?_⟩
  have hl' : cs.length = off + a.sz + b.sz := by rw [hl]; show off + (a.sz + b.sz) = _; omega
  obtain ⟨y, hy⟩ := hf f (by simp)
  rw [ho, r.sz] at hy
  obtain ⟨x, hx, kx⟩ := r.read hy
  obtain ⟨z, hz, kz⟩ := rs.read hl' (fun g hg => hf g (by simp [hg]))
  refine ⟨(x, z), ⟨(cs.drop off).take a.sz, cs.drop (off + a.sz), ?_, hx, hz⟩, kx, kz⟩
  rw [← List.drop_drop]
  exact (List.take_append_drop _ _).symm
theorem Rdr.struct {α : Type} {d : Kd α} {ok : α → Prop} {fs : List Field} (ht : P.underlying t = some (.struct fs.toArray)) (hc : P.cellsOf t = d.sz) (r : FRdr P 0 fs d ok) : Rdr P t d ok := by
  refine ⟨hc, fun {H enc w base spare held fuel cs x} h => ?_⟩
  obtain ⟨xs, n, _, _, hl, hlen, hf⟩ := DataW.trod_struct ht h
  refine r.read (enc := enc) (w := w) (base := base) (spare := spare) (held := held) (n := n) (by rw [hl, hc]; omega) (fun f hf' => ?_)
  obtain ⟨i, hi, he⟩ := List.mem_iff_getElem.1 hf'
  have e : fs.toArray[i]? = some f := by
    rw [List.getElem?_toArray, List.getElem?_eq_getElem hi]
    exact congrArg some he
  have := hf i f e
  rw [List.getElem?_eq_getElem (by rw [hlen]; simpa using hi)] at this
  exact ⟨_, this⟩
theorem Rdr.slice {α : Type} {d : Kd α} {ok : α → Prop} {e : TypeId} (ht : P.underlying t = some (.slice e)) (hc : P.cellsOf t = 1) (r : Rdr P e d ok) : Rdr P t (Kd.slice e d) (fun xs => xs.length ≤ 9223372036854775807 ∧ ∀ x ∈ xs, ok x) := by
  refine ⟨hc, fun {H enc w base spare held fuel cs x} h => ?_⟩
  rcases Go.Deep.open_slice ht h with ⟨rfl, _⟩ | ⟨a, len, cap, m, n, D, Pl, rfl, hb, hl, hm, hmm, _, hx⟩
  · exact ⟨[], ⟨none, 0, rfl, Nat.le_refl _, rfl, by simp, fun h => absurd h (by simp)⟩, by simp, by simp⟩
  · have hle : len ≤ m := by rw [hmm]; split <;> omega
    have hall : ∀ i : Fin len, ∃ y : α × List Value, w.cells? base (a.add (i * P.cellsOf e)) (P.cellsOf e) = some y.2 ∧ d.K w y.1 y.2 ∧ ok y.1 := fun i => by
      obtain ⟨cs', h1, h2⟩ := hx i (by omega)
      obtain ⟨y, hy, ky⟩ := r.read h2
      exact ⟨(y, cs'), h1, hy, ky⟩
    have hc := fun i => Classical.choose_spec (hall i)
    generalize hF : (fun i => Classical.choose (hall i)) = F at *
    have hF' : ∀ i, Classical.choose (hall i) = F i := fun i => congrFun hF i
    have hc' : ∀ i : Fin len, w.cells? base (a.add (i * P.cellsOf e)) (P.cellsOf e) = some (F i).2 ∧ d.K w (F i).1 (F i).2 ∧ ok (F i).1 := fun i => by rw [← hF' i]; exact hc i
    clear hc hF'
    have hlen : (List.ofFn fun i => (F i).1).length = len := by simp
    have hm' : len ≤ 9223372036854775807 := Nat.le_trans hl hm
    refine ⟨List.ofFn fun i => (F i).1, ⟨some a, cap, by rw [hlen], by rw [hlen]; exact hl, rfl, by rw [hlen]; exact hm', fun _ => ⟨a, rfl, fun j p hj => ?_⟩⟩, by rw [hlen]; exact hm', fun x hx => ?_⟩
    · obtain ⟨hjl, hp⟩ := List.getElem?_eq_some_iff.1 hj
      have hj' : j < len := by rw [hlen] at hjl; exact hjl
      obtain ⟨h1, h2, _⟩ := hc' ⟨j, hj'⟩
      have hpe : (F ⟨j, hj'⟩).1 = p := by rw [← hp, List.getElem_ofFn]
      refine ⟨(F ⟨j, hj'⟩).2, d.K_len h2, by rw [← hpe]; exact h2, fun i u hu => ?_⟩
      obtain ⟨_, hcl, hcell⟩ := World.cells?_some h1
      rw [r.sz] at hcell
      have hi : i < (F ⟨j, hj'⟩).2.length := (List.getElem?_eq_some_iff.1 hu).1
      rw [d.K_len h2] at hi
      have h5 := hcell i hi
      rw [hu, Addr.add_add] at h5
      exact h5
    · rw [List.mem_ofFn] at hx
      obtain ⟨i, rfl⟩ := hx
      exact (hc' i).2.2
end
end Go.Proofs.Ytlfnjkcgefcidaa.Rd
