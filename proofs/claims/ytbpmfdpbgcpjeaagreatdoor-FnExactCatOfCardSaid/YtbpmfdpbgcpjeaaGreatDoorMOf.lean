import Derived.Test.YtbpmfdpbgcpjeaaGreatDoorMCat2
import Derived.Test.YtbpmfdpbgcpjeaaGreatDoorMWord
set_option linter.unusedSimpArgs false
set_option linter.unusedVariables false
namespace Go.Abs.C
open Go Go.Abs Go.Proofs Go.RowKit
attribute [local irreducible] IntKind.wrap
open Go.Abs.W
theorem cat_list (a b : ByteArray) : (a ++ b).data.toList = a.data.toList ++ b.data.toList := by rw [ByteArray.data_append, Array.toList_append]
def dl (n : Int) : List UInt8 := (W.dec n).data.toList
theorem dl_no {n : Int} (h0 : 0 ≤ n) {c : UInt8} (h : isDg c = false) : ∀ x ∈ dl n, x ≠ c := by
  obtain ⟨m, rfl⟩ := Int.eq_ofNat_of_zero_le h0
  intro x hx e
  unfold dl at hx
  rw [W.dec_eq] at hx
  have := (decDigits_plain m).1.dg x hx
  rw [e, h] at this; cases this
theorem num_dec {n : Int} (h0 : 0 ≤ n) (h : n < 100000) : num (W.dec n) = some n.toNat := by
  obtain ⟨m, rfl⟩ := Int.eq_ofNat_of_zero_le h0
  show numOf (W.dec (m : Int)).data.toList = _
  have h1 := dec_size (n := m) (k := 4) (by omega)
  have h2 := szl (W.dec (m : Int))
  rw [dec_eq] at h2 h1 ⊢
  rw [Int.toNat_natCast]
  exact numOf_dec (by have h3 : (ByteArray.mk (Lib.decDigits m).toArray).data.toList.length = (Lib.decDigits m).length := rfl
                      omega)
theorem numS_dec {n : Int} (h0 : 0 ≤ n) (h : n < 100000) : numS (mkS (dl n)) = n := by
  unfold dl numS
  rw [mkS_of, num_dec h0 h]
  exact Int.toNat_of_nonneg h0
theorem numI_dec {n : Int} (h0 : 0 ≤ n) (h : n < 100000) : numI (mkS (dl n)) = n := by
  unfold dl numI
  rw [mkS_of, num_dec h0 h]
  exact Int.toNat_of_nonneg h0
theorem name_no {s : ByteArray} (h : nameOk s = true) {c : UInt8} (hc : c.toNat < 97) : ∀ x ∈ s.data.toList, x ≠ c := by
  intro x hx e
  obtain ⟨i, hi, rfl⟩ := List.mem_iff_getElem.1 hx
  rw [szl] at hi
  unfold nameOk at h
  simp only [Bool.and_eq_true, List.all_eq_true, List.mem_range, decide_eq_true_eq] at h
  have := h.1 i hi
  rw [bt_get hi, e] at this
  omega
/-- The text of a record. -/
def recText (h : Int) (n t : ByteArray) : ByteArray := ((W.dec h ++ ⟨#[32]⟩) ++ n ++ ⟨#[58]⟩) ++ t
structure RecP (s : ByteArray) (h : Int) (n t : ByteArray) : Prop where
  hh : inR h 0 1 = true
  nn : nameOk n = true
  tt : t.size ≤ 300
  eq : s = recText h n t
def recOk (h : Int) (n t : ByteArray) : Bool := inR h 0 1 && (nameOk n && inR t.size 0 300)
theorem recOk_iff {h : Int} {n t : ByteArray} : recOk h n t = true ↔ inR h 0 1 = true ∧ nameOk n = true ∧ t.size ≤ 300 := by
  unfold recOk
  simp only [Bool.and_eq_true, inR_iff]
  constructor
  · rintro ⟨a, b, c, d⟩; exact ⟨a, b, by omega⟩
  · rintro ⟨a, b, c⟩; exact ⟨a, b, by omega, by omega⟩
/-- What CatRecord writes. -/
def recS (h : Int) (n t : ByteArray) : ByteArray := match recOk h n t with
  | true => recText h n t
  | false => ⟨#[]⟩
def hl (h : Int) (n : ByteArray) : List UInt8 := dl h ++ 32 :: n.data.toList
theorem recText_list (h : Int) (n t : ByteArray) : (recText h n t).data.toList = hl h n ++ 58 :: t.data.toList := by
  unfold recText hl dl
  simp only [cat_list, List.append_assoc]
  rfl
theorem recText_ne (h : Int) (n t : ByteArray) : recText h n t ≠ ⟨#[]⟩ := fun e => by
  have := congrArg (fun s : ByteArray => s.data.toList.length) e
  simp only [recText_list] at this
  simp at this
namespace RecP
variable {s : ByteArray} {h : Int} {n t : ByteArray}
theorem rng (p : RecP s h n t) : 0 ≤ h ∧ h ≤ 1 := inR_iff.1 p.hh
theorem list (p : RecP s h n t) : s.data.toList = hl h n ++ 58 :: t.data.toList := by rw [p.eq]; exact recText_list h n t
theorem no58 (p : RecP s h n t) : ∀ x ∈ hl h n, x ≠ 58 := by
  intro x hx
  rcases List.mem_append.1 hx with hx | hx
  · exact dl_no p.rng.1 rfl x hx
  · rcases List.mem_cons.1 hx with rfl | hx
    · decide
    · exact name_no p.nn (by decide) x hx
theorem idx58 (p : RecP s h n t) : idx 58 s.data.toList = some (hl h n).length := by rw [p.list]; exact idx_append p.no58
theorem take (p : RecP s h n t) : s.data.toList.take (hl h n).length = hl h n := by rw [p.list]; simp
theorem drop (p : RecP s h n t) : s.data.toList.drop ((hl h n).length + 1) = t.data.toList := by rw [p.list, List.drop_append]; simp
theorem cA (p : RecP s h n t) : cutA 58 s = mkS (hl h n) := by unfold cutA; rw [p.idx58]; exact congrArg mkS p.take
theorem cB (p : RecP s h n t) : cutB 58 s = t := by unfold cutB; rw [p.idx58]; exact (congrArg mkS p.drop).trans (mkS_of t)
theorem idx32 (p : RecP s h n t) : idx 32 (hl h n) = some (dl h).length := idx_append (dl_no p.rng.1 rfl)
theorem cAA (p : RecP s h n t) : cutA 32 (mkS (hl h n)) = mkS (dl h) := by
  unfold cutA
  rw [mkS_list, p.idx32]
  exact congrArg mkS (by unfold hl; simp)
theorem cAB (p : RecP s h n t) : cutB 32 (mkS (hl h n)) = n := by
  unfold cutB
  rw [mkS_list, p.idx32]
  exact (congrArg mkS (show (hl h n).drop ((dl h).length + 1) = n.data.toList by unfold hl; rw [List.drop_append]; simp)).trans (mkS_of n)
theorem cuts2 (p : RecP s h n t) : cuts 32 (hl h n) = [dl h, n.data.toList] := by
  unfold hl
  rw [cuts_app (dl_no p.rng.1 rfl), cuts_none (idx_no (name_no p.nn (by decide)))]
theorem nI (p : RecP s h n t) : numI (cutA 32 (cutA 58 s)) = h := by rw [p.cA, p.cAA]; exact numI_dec p.rng.1 (by have := p.rng; omega)
theorem nm (p : RecP s h n t) : cutB 32 (cutA 58 s) = n := by rw [p.cA, p.cAB]
theorem ok (p : RecP s h n t) : recOk h n t = true := recOk_iff.2 ⟨p.hh, p.nn, p.tt⟩
theorem recS (p : RecP s h n t) : C.recS h n t = s := by unfold C.recS; rw [p.ok, p.eq]
theorem uniq {h' : Int} {n' t' : ByteArray} (p : RecP s h n t) (q : RecP s h' n' t') : h = h' ∧ n = n' ∧ t = t' :=
  ⟨p.nI.symm.trans q.nI, p.nm.symm.trans q.nm, p.cB.symm.trans q.cB⟩
theorem size (p : RecP s h n t) : s.size ≤ 400 := by
  have h1 := szl s
  rw [p.list] at h1
  have h2 := szl t
  have h3 := szl n
  have h4 := p.tt
  have h5 : n.size ≤ 6 := by
    have := p.nn
    unfold nameOk at this
    simp only [Bool.and_eq_true] at this
    have := (inR_iff.1 this.2).2; omega
  have h6 : (dl h).length ≤ 5 := by
    obtain ⟨m, e⟩ := Int.eq_ofNat_of_zero_le p.rng.1
    have := p.rng
    unfold dl
    rw [szl, e]
    exact dec_size (k := 4) (by omega)
  simp only [hl, List.length_append, List.length_cons] at h1
  omega
end RecP
theorem recS_some {h : Int} {n t s : ByteArray} (hs : s ≠ ⟨#[]⟩) (e : recS h n t = s) : RecP s h n t := by
  unfold recS at e
  split at e
  · rename_i q
    obtain ⟨a, b, c⟩ := recOk_iff.1 q
    exact ⟨a, b, c, e.symm⟩
  · exact absurd e.symm hs
theorem rec_ex (s : ByteArray) : ∃ o : Option (Int × ByteArray × ByteArray), ∀ q, o = some q ↔ RecP s q.1 q.2.1 q.2.2 := by
  by_cases h : ∃ q : Int × ByteArray × ByteArray, RecP s q.1 q.2.1 q.2.2
  · obtain ⟨q, hq⟩ := h
    refine ⟨some q, fun q' => Iff.intro (fun e => by rw [← Option.some.inj e]; exact hq) (fun r => ?_)⟩
    obtain ⟨e1, e2, e3⟩ := hq.uniq r
    exact congrArg some (Prod.ext e1 (Prod.ext e2 e3))
  · exact ⟨none, fun q => Iff.intro (fun e => nomatch e) (fun r => (h ⟨q, r⟩).elim)⟩
/-- What a record does to a catalogue. -/
def doC (l : Is) (last : Int) (q : Int × ByteArray × ByteArray) : Is × Int × Int := match q.2.2.toList == (ByteArray.mk #[]).toList with
  | true => takeC l last q.1 q.2.1
  | false => putC l last q.1 q.2.1 q.2.2
theorem doC_keeps {l : Is} {last : Int} {q : Int × ByteArray × ByteArray} (p : CatP l last) : CatP (doC l last q).1 (doC l last q).2.1 := by
  unfold doC
  split
  · exact takeC_keeps p
  · exact putC_keeps p
/-- One thing more or less. -/
structure OneP (l : Is) (last : Int) (X : Is) (last' : Int) : Prop where
  len : X.length = l.length + 1 ∨ X.length + 1 = l.length
  lo : last ≤ last'
  hi : last' ≤ last + 1
theorem doC_one {l : Is} {last : Int} {q : Int × ByteArray × ByteArray} (p : CatP l last) (hc : (doC l last q).2.2 = 0) : OneP l last (doC l last q).1 (doC l last q).2.1 := by
  unfold doC at hc ⊢
  split at hc
  · unfold takeC at hc ⊢
    split at hc
    · simp at hc
    · rename_i g
      have hk := (findI_pos (p := fun x => same x q.1 q.2.1) (l := l) (by have := of_decide_eq_false g; omega)).1
      refine ⟨.inr ?_, Int.le_refl _, by show last ≤ last + 1; omega⟩
      show (delAt l _).length + 1 = _
      rw [delAt_len hk]; omega
  · have := putC_good p hc
    exact ⟨.inl this.len, by rw [this.lst]; omega, by rw [this.lst]; omega⟩
open Classical in
noncomputable def doesO (c : Is × Int) (s : ByteArray) : Option (Is × Int) :=
  if h : ∃ q : Int × ByteArray × ByteArray, RecP s q.1 q.2.1 q.2.2 then
    if (doC c.1 c.2 h.choose).2.2 = 0 then some ((doC c.1 c.2 h.choose).1, (doC c.1 c.2 h.choose).2.1) else none
  else none
theorem doesO_of {c : Is × Int} {s : ByteArray} {q : Int × ByteArray × ByteArray} (h : RecP s q.1 q.2.1 q.2.2) : doesO c s = if (doC c.1 c.2 q).2.2 = 0 then some ((doC c.1 c.2 q).1, (doC c.1 c.2 q).2.1) else none := by
  have hx : ∃ q : Int × ByteArray × ByteArray, RecP s q.1 q.2.1 q.2.2 := ⟨q, h⟩
  have e : hx.choose = q := by
    obtain ⟨e1, e2, e3⟩ := hx.choose_spec.uniq h
    exact Prod.ext e1 (Prod.ext e2 e3)
  unfold doesO
  rw [dif_pos hx, e]
theorem doesO_no {c : Is × Int} {s : ByteArray} (h : ∀ q : Int × ByteArray × ByteArray, ¬ RecP s q.1 q.2.1 q.2.2) : doesO c s = none := by
  unfold doesO
  rw [dif_neg (fun ⟨q, hq⟩ => h q hq)]
theorem doesO_one {c d : Is × Int} {s : ByteArray} (p : CatP c.1 c.2) (h : doesO c s = some d) : CatP d.1 d.2 ∧ OneP c.1 c.2 d.1 d.2 := by
  unfold doesO at h
  split at h
  · rename_i hx
    split at h
    · rename_i hc
      cases h
      exact ⟨doC_keeps p, doC_one p hc⟩
    · cases h
  · cases h
theorem snoc_ind {α : Type} {p : List α → Prop} (h0 : p []) (h1 : ∀ l a, p l → p (l ++ [a])) : ∀ l, p l := by
  intro l
  have : ∀ (n : Nat) (l : List α), l.length = n → p l := by
    intro n
    induction n with
    | zero => intro l h; rw [List.length_eq_zero_iff.1 h]; exact h0
    | succ n ih =>
      intro l h
      have hne : l ≠ [] := by rintro rfl; simp at h
      rw [← List.dropLast_concat_getLast hne]
      exact h1 _ _ (ih _ (by rw [List.length_dropLast]; omega))
  exact this _ l rfl
/-- What records say, one behind the other. -/
noncomputable def catL (rs : List ByteArray) : Option (Is × Int) := rs.foldl (fun o s => o.bind fun c => doesO c s) (some ([], 0))
theorem catL_snoc (rs : List ByteArray) (s : ByteArray) : catL (rs ++ [s]) = (catL rs).bind fun c => doesO c s := by
  unfold catL; rw [List.foldl_append]; rfl
theorem catL_none {rs : List ByteArray} (h : catL rs = none) : ∀ m, catL (rs ++ m) = none := by
  intro m
  induction m using snoc_ind with
  | h0 => rw [List.append_nil]; exact h
  | h1 m s ih => rw [← List.append_assoc, catL_snoc, ih]; rfl
theorem catL_take {rs : List ByteArray} {c : Is × Int} (h : catL rs = some c) (k : Nat) : ∃ d, catL (rs.take k) = some d := by
  cases q : catL (rs.take k) with
  | some d => exact ⟨d, rfl⟩
  | none =>
    have := catL_none q (rs.drop k)
    rw [List.take_append_drop, h] at this
    cases this
structure CatLP (rs : List ByteArray) (c : Is × Int) : Prop where
  ok : CatP c.1 c.2
  le : c.2 ≤ rs.length
theorem catL_ok : ∀ {rs : List ByteArray} {c : Is × Int}, catL rs = some c → CatLP rs c := by
  intro rs
  induction rs using snoc_ind with
  | h0 => intro c h; cases h; exact ⟨catNil, Int.le_refl _⟩
  | h1 rs s ih =>
    intro c h
    rw [catL_snoc] at h
    cases q : catL rs with
    | none => rw [q] at h; cases h
    | some d =>
      rw [q] at h
      have pd := ih q
      obtain ⟨h1, h2⟩ := doesO_one pd.ok h
      refine ⟨h1, ?_⟩
      have := h2.hi
      have := pd.le
      rw [List.length_append]
      simp
      omega
theorem catL_step {rs : List ByteArray} {k : Nat} (hk : k < rs.length) {c d : Is × Int} (h1 : catL (rs.take k) = some c) (h2 : catL (rs.take (k + 1)) = some d) : OneP c.1 c.2 d.1 d.2 := by
  rw [List.take_succ_eq_append_getElem hk, catL_snoc, h1] at h2
  exact (doesO_one (catL_ok h1).ok h2).2
end Go.Abs.C

set_option linter.unusedSimpArgs false
set_option linter.unusedVariables false
namespace Go.Abs.C
open Go Go.Abs Go.Proofs Go.RowKit
attribute [local irreducible] IntKind.wrap
open Go.Abs.W
theorem rec_bound {m : Nat} {n t : ByteArray} (hm : m ≤ 1) : (W.dec (m : Int)).size ≤ 5 := W.dec_size (n := m) (k := 4) (by omega)
theorem nm_size {n : ByteArray} (h : nameOk n = true) : n.size ≤ 6 := by
  unfold nameOk at h
  simp only [Bool.and_eq_true] at h
  have := (inR_iff.1 h.2).2; omega
theorem one_size (c : UInt8) : (ByteArray.mk #[c]).size = 1 := rfl
set_option maxHeartbeats 16000000 in
set_option maxRecDepth 100000 in
theorem implRec_ok (h : Int) (n t : ByteArray) (hn : n.size ≤ 281474976710656) (ht : t.size ≤ 281474976710656) : Good Tryz.prog 39 [vint h, vstr n, vstr t] [] (vstr (recS h n t)) [] := by
  refine good_e noM Tryz.func39 rfl rfl ?_
  conv => whnf
  refine .mk _ _ false Tryz.call45 (house_ok h) (Nat.le_of_ble_eq_true rfl) (.inl rfl) ?_
  conv => whnf
  unfold recS recOk
  cases q1 : inR h 0 1 with
  | false =>
    conv => whnf
    refine ⟨trivial, ?_⟩
    conv => whnf
    exact ⟨rfl, rfl⟩
  | true =>
    obtain ⟨m, e⟩ := Int.eq_ofNat_of_zero_le (inR_iff.1 q1).1
    have hd := W.dec_size (n := m) (k := 4) (by have := (inR_iff.1 q1).2; omega)
    rw [← e] at hd
    conv => whnf
    refine .mk _ _ false Tryz.call46 (implName_ok n (by omega)) (Nat.le_of_ble_eq_true rfl) (.inl rfl) ?_
    conv => whnf
    cases q2 : nameOk n with
    | false =>
      conv => whnf
      refine ⟨trivial, ?_⟩
      conv => whnf
      exact ⟨rfl, rfl⟩
    | true =>
      have hn6 := nm_size q2
      conv => whnf
      split
      · rename_i q3
        have q3' := of_decide_eq_true q3
        have q4 : inR (t.size : Int) 0 300 = false := by
          cases q5 : inR (t.size : Int) 0 300 with
          | false => rfl
          | true => have := (inR_iff.1 q5).2; omega
        rw [q4]
        conv => whnf
        refine ⟨trivial, ?_⟩
        conv => whnf
        exact ⟨rfl, rfl⟩
      · rename_i q3
        have q3' := of_decide_eq_false q3
        rw [inR_iff.2 ⟨by omega, by omega⟩]
        conv => whnf
        refine .mk _ _ false Tryz.call61 (W.itoa_ok h (by omega) (by have := (inR_iff.1 q1).2; omega)) (Nat.le_of_ble_eq_true rfl) (.inl rfl) ?_
        conv => whnf
        rw [abin_cat (a := _) (b := _) rfl rfl (by simp only [ByteArray.size_append, one_size]; omega)]
        conv => whnf
        rw [abin_cat (a := _) (b := _) rfl rfl (by simp only [ByteArray.size_append, one_size]; omega)]
        conv => whnf
        rw [abin_cat (a := _) (b := _) rfl rfl (by simp only [ByteArray.size_append, one_size]; omega)]
        conv => whnf
        rw [abin_cat (a := _) (b := _) rfl rfl (by simp only [ByteArray.size_append, one_size]; omega)]
        conv => whnf
        refine ⟨trivial, ?_⟩
        conv => whnf
        exact ⟨rfl, rfl⟩
theorem some_x (h : Int) (n : ByteArray) : itemOk ⟨h, n, 0, ⟨#[120]⟩⟩ = recOk h n ⟨#[]⟩ := rfl
theorem some_t (h : Int) (n : ByteArray) {t : ByteArray} (ht : (t.toList == (ByteArray.mk #[]).toList) = false) : itemOk ⟨h, n, 0, t⟩ = recOk h n t := by
  unfold itemOk recOk
  have : 1 ≤ t.size := by
    rcases Nat.eq_zero_or_pos t.size with q | q
    · have e : t = ⟨#[]⟩ := by apply ByteArray.ext; exact Array.eq_empty_of_size_eq_zero q
      rw [e] at ht; simp at ht
    · exact q
  have e2 : inR (t.size : Int) 1 300 = inR (t.size : Int) 0 300 := by
    rw [Bool.eq_iff_iff, inR_iff, inR_iff]; omega
  show (inR h 0 1 && (nameOk n && inR (t.size : Int) 1 300)) = _
  rw [e2]
set_option maxHeartbeats 16000000 in
set_option maxRecDepth 100000 in
theorem specRec_tail (h : Int) (n t : ByteArray) (q : recOk h n t = true) : ∃ m : Nat, h = m ∧ m ≤ 1 ∧ (W.dec (m : Int)).size ≤ 5 ∧ n.size ≤ 6 ∧ t.size ≤ 300 := by
  obtain ⟨a, b, c⟩ := recOk_iff.1 q
  obtain ⟨m, e⟩ := Int.eq_ofNat_of_zero_le (inR_iff.1 a).1
  have := (inR_iff.1 a).2
  exact ⟨m, e, by omega, W.dec_size (n := m) (k := 4) (by omega), nm_size b, c⟩
set_option maxHeartbeats 16000000 in
set_option maxRecDepth 100000 in
theorem specRec_ok (h : Int) (n t : ByteArray) (hn : n.size ≤ 281474976710656) (ht : t.size ≤ 281474976710656) : Good Tryz.prog 25 [vint h, vstr n, vstr t] [] (vstr (recS h n t)) [] := by
  refine good_e noM Tryz.func25 rfl rfl ?_
  conv => whnf
  have lx := l9Ok_ok ⟨h, n, 0, ⟨#[120]⟩⟩ (by show n.size ≤ _; omega)
  have lt := l9Ok_ok ⟨h, n, 0, t⟩ (by show n.size ≤ _; omega)
  split
  · rename_i q0
    have e0 := str_eq.1 q0
    subst e0
    rw [some_x] at lx
    conv => whnf
    refine .mk _ _ false Tryz.call43 lx (Nat.le_of_ble_eq_true rfl) (.inl rfl) ?_
    conv => whnf
    unfold recS
    cases q : recOk h n ⟨#[]⟩ with
    | false =>
      conv => whnf
      refine ⟨trivial, ?_⟩
      conv => whnf
      exact ⟨rfl, rfl⟩
    | true =>
      obtain ⟨m, rfl, h1, h2, h3, h4⟩ := specRec_tail h n _ q
      conv => whnf
      refine .mk _ _ false Tryz.call44 (W.l1Dec_ok m (by omega)) (Nat.le_of_ble_eq_true rfl) (.inl rfl) ?_
      conv => whnf
      rw [abin_cat (a := _) (b := _) rfl rfl (by simp only [ByteArray.size_append, one_size]; omega)]
      conv => whnf
      rw [abin_cat (a := _) (b := _) rfl rfl (by simp only [ByteArray.size_append, one_size]; omega)]
      conv => whnf
      rw [abin_cat (a := _) (b := _) rfl rfl (by simp only [ByteArray.size_append, one_size]; omega)]
      conv => whnf
      rw [abin_cat (a := _) (b := _) rfl rfl (by simp only [ByteArray.size_append, one_size]; omega)]
      conv => whnf
      refine ⟨trivial, ?_⟩
      conv => whnf
      exact ⟨rfl, rfl⟩
  · rename_i q0
    rw [some_t h n q0] at lt
    conv => whnf
    refine .mk _ _ false Tryz.call43 lt (Nat.le_of_ble_eq_true rfl) (.inl rfl) ?_
    conv => whnf
    unfold recS
    cases q : recOk h n t with
    | false =>
      conv => whnf
      refine ⟨trivial, ?_⟩
      conv => whnf
      exact ⟨rfl, rfl⟩
    | true =>
      obtain ⟨m, rfl, h1, h2, h3, h4⟩ := specRec_tail h n _ q
      conv => whnf
      refine .mk _ _ false Tryz.call44 (W.l1Dec_ok m (by omega)) (Nat.le_of_ble_eq_true rfl) (.inl rfl) ?_
      conv => whnf
      rw [abin_cat (a := _) (b := _) rfl rfl (by simp only [ByteArray.size_append, one_size]; omega)]
      conv => whnf
      rw [abin_cat (a := _) (b := _) rfl rfl (by simp only [ByteArray.size_append, one_size]; omega)]
      conv => whnf
      rw [abin_cat (a := _) (b := _) rfl rfl (by simp only [ByteArray.size_append, one_size]; omega)]
      conv => whnf
      rw [abin_cat (a := _) (b := _) rfl rfl (by simp only [ByteArray.size_append, one_size]; omega)]
      conv => whnf
      refine ⟨trivial, ?_⟩
      conv => whnf
      exact ⟨rfl, rfl⟩
end Go.Abs.C

set_option linter.unusedSimpArgs false
set_option linter.unusedVariables false
namespace Go.Abs.C
open Go Go.Abs Go.Proofs Go.RowKit
attribute [local irreducible] IntKind.wrap
open Go.Abs.W
theorem cutA_size (c : UInt8) (s : ByteArray) : (cutA c s).size ≤ s.size := by
  unfold cutA
  split
  · rw [mkS_size, List.length_take]
    have := szl s; omega
  · exact Nat.le_refl _
theorem cutB_size (c : UInt8) (s : ByteArray) : (cutB c s).size ≤ s.size := by
  unfold cutB
  split
  · rw [mkS_size, List.length_drop]
    have := szl s; omega
  · exact Nat.zero_le _
@[reducible] def appT (T : Is × Int × Int) : AV := .tup [.agg [.p (.lit (.int .i64 T.2.1)), .hs 0 0 T.1.length], vbool (T.2.2 == 0)]
@[reducible] def applR (l : Is) (last : Int) : Option (Int × ByteArray × ByteArray) → AV
  | none => .tup [noCat, vbool false]
  | some q => appT (doC l last q)
@[reducible] def applB (l : Is) (last : Int) : Option (Int × ByteArray × ByteArray) → List Blk
  | none => []
  | some q => [.arr 4 ((doC l last q).1.map encItem)]
theorem none_of {s : ByteArray} {o : Option (Int × ByteArray × ByteArray)} (ho : ∀ q, o = some q ↔ RecP s q.1 q.2.1 q.2.2) (h : ∀ h n t, ¬ RecP s h n t) : o = none := by
  cases o with
  | none => rfl
  | some q => exact absurd ((ho q).1 rfl) (h q.1 q.2.1 q.2.2)
set_option maxHeartbeats 16000000 in
set_option maxRecDepth 100000 in
theorem apply_ok (l : Is) (last : Int) (s : ByteArray) (hs : s.size ≤ 1100000) (p : CatP l last) (o : Option (Int × ByteArray × ByteArray)) (ho : ∀ q, o = some q ↔ RecP s q.1 q.2.1 q.2.2) : Good Tryz.prog 18 [cat l last, vstr s] [] (applR l last o) (applB l last o) := by
  have hl8 := p.len
  have z1 := cutA_size 58 s
  have z2 := cutB_size 58 s
  have z3 := cutA_size 32 (cutA 58 s)
  have z4 := cutB_size 32 (cutA 58 s)
  have hI := fun h n t (q : RecP s h n t) => q.nI
  have hN := fun h n t (q : RecP s h n t) => q.nm
  have hB := fun h n t (q : RecP s h n t) => q.cB
  refine good_e noM Tryz.func18 rfl rfl ?_
  conv => whnf
  refine .mk _ _ false Tryz.call37 (W.cut1_ok s 58 (by omega)) (Nat.le_of_ble_eq_true rfl) (.inl rfl) ?_
  conv => whnf
  refine .mk _ _ false Tryz.call37 (W.cut1_ok (cutA 58 s) 32 (by omega)) (Nat.le_of_ble_eq_true rfl) (.inl rfl) ?_
  conv => whnf
  refine .mk _ _ false Tryz.call38 (W.number_ok (cutA 32 (cutA 58 s)) (by omega)) (Nat.le_of_ble_eq_true rfl) (.inl rfl) ?_
  conv => whnf
  split
  · rename_i q0
    have e0 := str_eq.1 q0
    have : o = none := none_of ho fun h n t q => recText_ne h n t (q.eq.symm.trans e0)
    subst this
    conv => whnf
    refine ⟨⟨⟨by decide +kernel, Nat.le_of_ble_eq_true rfl⟩, trivial⟩, ?_⟩
    conv => whnf
    exact ⟨rfl, rfl⟩
  · rename_i q0
    have e0 : s ≠ ⟨#[]⟩ := fun e => by rw [e] at q0; simp at q0
    conv => whnf
    refine .mk _ _ false Tryz.call39 (implRec_ok (numI (cutA 32 (cutA 58 s))) (cutB 32 (cutA 58 s)) (cutB 58 s) (by omega) (by omega)) (Nat.le_of_ble_eq_true rfl) (.inl rfl) ?_
    conv => whnf
    generalize numI (cutA 32 (cutA 58 s)) = h at hI ⊢
    generalize cutB 32 (cutA 58 s) = n at hN z4 ⊢
    generalize cutB 58 s = t at hB z2 ⊢
    cases e : ((recS h n t).toList == s.toList) with
    | false =>
      have : o = none := none_of ho fun h' n' t' q => by
        have e1 := q.recS
        rw [← hI _ _ _ q, ← hN _ _ _ q, ← hB _ _ _ q] at e1
        rw [e1] at e
        simp at e
      subst this
      conv => whnf
      refine ⟨⟨⟨by decide +kernel, Nat.le_of_ble_eq_true rfl⟩, trivial⟩, ?_⟩
      conv => whnf
      exact ⟨rfl, rfl⟩
    | true =>
      have P := recS_some e0 (str_eq.1 e)
      have : o = some (h, n, t) := (ho (h, n, t)).2 P
      subst this
      conv => whnf
      refine .mk _ _ false Tryz.call40 (takeI_ok l last h n hl8) (Nat.le_of_ble_eq_true rfl) (.inl rfl) ?_
      conv => whnf
      have eD : doC l last (h, n, t) = (match t.toList == (ByteArray.mk #[]).toList with | true => takeC l last h n | false => putC l last h n t) := rfl
      cases ht : (t.toList == (ByteArray.mk #[]).toList) with
      | true =>
        have eT : takeC l last h n = doC l last (h, n, t) := by rw [eD, ht]
        conv => whnf
        refine ⟨⟨⟨by decide +kernel, Nat.le_of_ble_eq_true rfl⟩, trivial⟩, ?_⟩
        conv => whnf
        exact ⟨congrArg appT eT, congrArg (fun T : Is × Int × Int => [Blk.arr 4 (T.1.map encItem)]) eT⟩
      | false =>
        have eT : putC l last h n t = doC l last (h, n, t) := by rw [eD, ht]
        conv => whnf
        refine .mk _ _ false Tryz.call41 (put_ok l last h n t p (by omega)) (Nat.le_of_ble_eq_true rfl) (.inl rfl) ?_
        conv => whnf
        refine ⟨⟨⟨by decide +kernel, Nat.le_of_ble_eq_true rfl⟩, trivial⟩, ?_⟩
        conv => whnf
        exact ⟨congrArg appT eT, congrArg (fun T : Is × Int × Int => [Blk.arr 4 (T.1.map encItem)]) eT⟩
end Go.Abs.C

set_option linter.unusedSimpArgs false
set_option linter.unusedVariables false
namespace Go.Abs.C
open Go Go.Abs Go.Proofs Go.RowKit
attribute [local irreducible] IntKind.wrap
open Go.Abs.W
set_option maxHeartbeats 16000000 in
set_option maxRecDepth 100000 in
theorem specDoes_ok (l : Is) (last : Int) (s : ByteArray) (hs : s.size ≤ 1100000) (p : CatP l last) (o : Option (Int × ByteArray × ByteArray)) (ho : ∀ q, o = some q ↔ RecP s q.1 q.2.1 q.2.2) : Good Tryz.prog 17 [cat l last, vstr s] [] (applR l last o) (applB l last o) := by
  have hl8 := p.len
  have hsl := szl s
  have hsn : ∀ x ∈ l, x.b.size ≤ 9223372036854775807 := fun x hx => Nat.le_trans (p.names x hx) (by decide)
  refine good_e noM Tryz.func17 rfl rfl ?_
  conv => whnf
  refine .mk _ _ false Tryz.call32 (W.l7Find_ok s (by omega) 0 (by decide) 58) (Nat.le_of_ble_eq_true rfl) (.inl rfl) ?_
  conv => whnf
  cases hx : idx 58 s.data.toList with
  | none =>
    have e : findB 58 s.data.toList 0 = -1 := by unfold findB; rw [List.drop_zero, hx]
    have : o = none := none_of ho fun h n t q => by have := q.idx58; rw [hx] at this; cases this
    subst this
    rw [e]
    conv => whnf
    refine ⟨⟨⟨by decide +kernel, Nat.le_of_ble_eq_true rfl⟩, trivial⟩, ?_⟩
    conv => whnf
    exact ⟨rfl, rfl⟩
  | some k =>
    have e : findB 58 s.data.toList 0 = ((k : Nat) : Int) := by unfold findB; rw [List.drop_zero, hx]; simp
    have hk : k < s.size := by have := (idx_some hx).1; omega
    rw [e]
    conv => whnf
    refine ⟨⟨by omega, by omega, by omega⟩, ?_⟩
    conv => whnf
    have hex : s.extract (Int.toNat 0) ((k : Nat) : Int).toNat = mkS (s.data.toList.take k) := by
      rw [extract_eq, Int.toNat_natCast]; rfl
    have hg := W.l5Cuts_ok (mkS (s.data.toList.take k)) (by rw [mkS_size, List.length_take]; omega) 32
    rw [mkS_list] at hg
    have hps : ∀ i, ((cuts 32 (s.data.toList.take k)).getD i []).length ≤ s.size := fun i => Nat.le_trans (W.piece_size _ i) (by rw [List.length_take]; omega)
    obtain ⟨t, ht⟩ : ∃ t, t = mkS (s.data.toList.drop (k + 1)) := ⟨_, rfl⟩
    have htz : t.size ≤ s.size := by rw [ht, mkS_size, List.length_drop]; omega
    have hr : ∀ h n t', RecP s h n t' → cuts 32 (s.data.toList.take k) = [dl h, n.data.toList] ∧ t' = t := fun h n t' q => by
      have e1 := q.idx58
      rw [hx] at e1
      rw [ht, Option.some.inj e1]
      refine ⟨by rw [q.take]; exact q.cuts2, ?_⟩
      rw [q.drop]; exact (mkS_of t').symm
    rw [hex]
    generalize cuts 32 (s.data.toList.take k) = ps at hg hps hr
    refine .mk _ _ false Tryz.call33 hg (Nat.le_of_ble_eq_true rfl) (.inl rfl) ?_
    conv => whnf
    have hw : IntKind.i64.wrap ((k : Int) + 1) = ((k + 1 : Nat) : Int) := by rw [wi _ (by omega) (by omega)]; omega
    have hex2 : s.extract ((k + 1 : Nat) : Int).toNat (s.size : Int).toNat = t := by
      rw [extract_eq, Int.toNat_natCast, Int.toNat_natCast, ht, List.take_of_length_le (by rw [List.length_drop]; omega)]
    rw [hw, hex2]
    refine ⟨⟨by omega, by omega, by omega⟩, ?_⟩
    conv => whnf
    refine VDraw.goR [0, 1, 3, 7, 15, 31, 63, 127, 15, 271, 783, 15, 4095, 15, 16383, 32767] [7, 12] [] [] rfl (by decide +kernel) ?_
    conv => whnf
    split
    · rename_i q
      have : o = none := none_of ho fun h n t' r => by
        rw [(hr h n t' r).1] at q
        cases q
      subst this
      conv => whnf
      refine ⟨⟨⟨by decide +kernel, Nat.le_of_ble_eq_true rfl⟩, trivial⟩, ?_⟩
      conv => whnf
      exact ⟨rfl, rfl⟩
    rename_i q
    have h2 : ps.length = 2 := by
      have : ((ps.length : Int) == 2) = true := by simpa using q
      have := beq_iff_eq.1 this
      omega
    obtain ⟨a, b, rfl⟩ : ∃ a b, ps = [a, b] := by
      rcases ps with _ | ⟨a, _ | ⟨b, _ | ⟨c, ps⟩⟩⟩
      · simp at h2
      · simp at h2
      · exact ⟨a, b, rfl⟩
      · simp at h2
    have za : a.length ≤ s.size := hps 0
    have zb : b.length ≤ s.size := hps 1
    conv => whnf
    have i2 : 0 + [a, b].length ≤ (Abs.encS [a, b]).length := Nat.le_refl 2
    have j0 : (0 : Int) < (([a, b].length : Nat) : Int) := by simp
    have j1 : (1 : Int) < (([a, b].length : Nat) : Int) := by simp
    refine ⟨by decide, j0, i2, ?_⟩
    conv => whnf
    refine ⟨_, W.encS_at [a, b] (i := 0) rfl (by simp), ?_⟩
    conv => whnf
    refine .mk _ _ false Tryz.call34 (W.l5Num_ok (mkS a) (by rw [mkS_size]; omega)) (Nat.le_of_ble_eq_true rfl) (.inl rfl) ?_
    conv => whnf
    refine ⟨by decide, j1, i2, ?_⟩
    conv => whnf
    refine ⟨_, W.encS_at [a, b] (i := 1) rfl (by simp), ?_⟩
    conv => whnf
    refine .mk _ _ false Tryz.call25 (specRec_ok (numS (mkS a)) (mkS b) t (by rw [mkS_size]; omega) (by omega)) (Nat.le_of_ble_eq_true rfl) (.inl rfl) ?_
    conv => whnf
    have hI : ∀ h' n' t', RecP s h' n' t' → numS (mkS a) = h' ∧ mkS b = n' ∧ t = t' := fun h' n' t' q => by
      obtain ⟨e1, e2⟩ := hr h' n' t' q
      simp only [List.cons.injEq, and_true] at e1
      exact ⟨by rw [e1.1]; exact numS_dec q.rng.1 (by have := q.rng; omega), by rw [e1.2]; exact mkS_of n', e2.symm⟩
    have gn := W.l5Num_ok (mkS a) (by rw [mkS_size]; omega)
    have hbn : (mkS b).size ≤ 9223372036854775807 := by rw [mkS_size]; omega
    have e0 : s ≠ ⟨#[]⟩ := fun e => by rw [e] at hk; exact absurd hk (by show ¬ k < 0; omega)
    cases e : ((recS (numS (mkS a)) (mkS b) t).toList == s.toList) with
    | false =>
      have : o = none := none_of ho fun h' n' t' q => by
        have e1 := q.recS
        obtain ⟨f1, f2, f3⟩ := hI _ _ _ q
        rw [← f1, ← f2, ← f3] at e1
        rw [e1] at e
        simp at e
      subst this
      conv => whnf
      refine ⟨⟨⟨by decide +kernel, Nat.le_of_ble_eq_true rfl⟩, trivial⟩, ?_⟩
      conv => whnf
      exact ⟨rfl, rfl⟩
    | true =>
      have P := recS_some e0 (str_eq.1 e)
      have : o = some (numS (mkS a), mkS b, t) := (ho (numS (mkS a), mkS b, t)).2 P
      subst this
      have eD : doC l last (numS (mkS a), mkS b, t) = (match t.toList == (ByteArray.mk #[]).toList with | true => takeC l last (numS (mkS a)) (mkS b) | false => putC l last (numS (mkS a)) (mkS b) t) := rfl
      conv => whnf
      cases ht0 : (t.toList == (ByteArray.mk #[]).toList) with
      | true =>
        have eT : takeC l last (numS (mkS a)) (mkS b) = doC l last (numS (mkS a), mkS b, t) := by rw [eD, ht0]
        refine VDraw.goR [0, 0, 2, 6, 14, 0, 32, 96, 255, 511, 1023, 1023, 0, 6143, 16383] [4, 8, 12, 13] [(13, [12])] [] rfl (by decide +kernel) ?_
        conv => whnf
        refine ⟨by decide, j0, i2, ?_⟩
        conv => whnf
        refine ⟨_, W.encS_at [a, b] (i := 0) rfl (by simp), ?_⟩
        conv => whnf
        refine .mk _ _ false Tryz.call34 gn (Nat.le_of_ble_eq_true rfl) (.inl rfl) ?_
        conv => whnf
        refine ⟨by decide, j1, i2, ?_⟩
        conv => whnf
        refine ⟨_, W.encS_at [a, b] (i := 1) rfl (by simp), ?_⟩
        conv => whnf
        refine .mk _ _ false Tryz.call35 (specTake_ok l last (numS (mkS a)) (mkS b) hsn p) (Nat.le_of_ble_eq_true rfl) (.inl rfl) ?_
        conv => whnf
        refine ⟨⟨⟨by decide +kernel, Nat.le_of_ble_eq_true rfl⟩, trivial⟩, ?_⟩
        conv => whnf
        exact ⟨congrArg appT eT, congrArg (fun T : Is × Int × Int => [Blk.arr 4 (T.1.map encItem)]) eT⟩
      | false =>
        have eT : putC l last (numS (mkS a)) (mkS b) t = doC l last (numS (mkS a), mkS b, t) := by rw [eD, ht0]
        refine VDraw.goR [0, 0, 2, 6, 14, 0, 32, 96, 0, 511, 1023, 2047, 2047, 0, 12287, 32767] [4, 9, 13, 14] [(14, [13])] [] rfl (by decide +kernel) ?_
        conv => whnf
        refine ⟨by decide, j0, i2, ?_⟩
        conv => whnf
        refine ⟨_, W.encS_at [a, b] (i := 0) rfl (by simp), ?_⟩
        conv => whnf
        refine .mk _ _ false Tryz.call34 gn (Nat.le_of_ble_eq_true rfl) (.inl rfl) ?_
        conv => whnf
        refine ⟨by decide, j1, i2, ?_⟩
        conv => whnf
        refine ⟨_, W.encS_at [a, b] (i := 1) rfl (by simp), ?_⟩
        conv => whnf
        refine .mk _ _ false Tryz.call36 (specPut_ok l last (numS (mkS a)) (mkS b) t hsn hbn p) (Nat.le_of_ble_eq_true rfl) (.inl rfl) ?_
        conv => whnf
        refine ⟨⟨⟨by decide +kernel, Nat.le_of_ble_eq_true rfl⟩, trivial⟩, ?_⟩
        conv => whnf
        exact ⟨congrArg appT eT, congrArg (fun T : Is × Int × Int => [Blk.arr 4 (T.1.map encItem)]) eT⟩
end Go.Abs.C

set_option linter.unusedSimpArgs false
set_option linter.unusedVariables false
namespace Go.Abs.C
open Go Go.Abs Go.Proofs Go.RowKit
attribute [local irreducible] IntKind.wrap
open Go.Abs.W
@[reducible] def ofR : Option (Is × Int) → AV
  | none => .tup [noCat, vbool false]
  | some c => .tup [.agg [.p (.lit (.int .i64 c.2)), .hs 0 0 c.1.length], vbool true]
@[reducible] def ofB : Option (Is × Int) → List Blk
  | none => []
  | some c => [.arr 4 (c.1.map encItem)]
theorem recs_at (rs : List ByteArray) {i j : Nat} (e : j = i) (h : i < rs.length) : (rs.map encS).getD j [] = [.lit (.string (rs[i]))] := by
  rw [e, List.getD_eq_getElem?_getD, List.getElem?_map, List.getElem?_eq_getElem h]; rfl
theorem catL_next {rs : List ByteArray} {i : Nat} (h : i < rs.length) {c : Is × Int} (hc : catL (rs.take i) = some c) : catL (rs.take (i + 1)) = doesO c (rs[i]) := by
  rw [List.take_succ_eq_append_getElem h, catL_snoc, hc]; rfl
theorem catL_stop {rs : List ByteArray} {i : Nat} (h : catL (rs.take i) = none) : catL rs = none := by
  have := catL_none h (rs.drop i)
  rw [List.take_append_drop] at this; exact this
/-- What a record does, by what it says. -/
theorem does_of (c : Is × Int) {s : ByteArray} {o : Option (Int × ByteArray × ByteArray)} (ho : ∀ q, o = some q ↔ RecP s q.1 q.2.1 q.2.2) : (o = none → doesO c s = none) ∧ ∀ q, o = some q → doesO c s = if (doC c.1 c.2 q).2.2 = 0 then some ((doC c.1 c.2 q).1, (doC c.1 c.2 q).2.1) else none :=
  ⟨fun e => doesO_no fun q hq => (by have := (ho q).2 hq; rw [e] at this; cases this), fun q e => doesO_of ((ho q).1 e)⟩
set_option maxHeartbeats 16000000 in
set_option maxRecDepth 100000 in
theorem implOf_ok (rs : List ByteArray) (hl : rs.length ≤ 1100000) (hz : ∀ s ∈ rs, s.size ≤ 1100000) : Good Tryz.prog 8 [.one (.p (.sl (rs.map encS)))] [] (ofR (catL rs)) (ofB (catL rs)) := by
  refine good_e noM Tryz.func8 rfl rfl ?_
  conv => whnf
  refine VLoop.enter [2, 4, 11, 12, 13] ?_
  conv => whnf
  refine VLoop.ind3 (n0 := 3) (α := Int) (β := Is) (γ := Int) noM [2, 4, 11, 12, 13] (fun a l last => ⟨29, 0, [(2, .one (.hp 0 0 0)), (4, .one (.hp 1 0 0)), (11, .one (.p (.sl (rs.map encS)))), (12, vint (rs.map encS).length), (13, vint a)],
      [(0, some (.box [.p (.lit (.int .i64 0)), .p (.lit (.slice none 0 0))])), (1, some (.box [.p (.lit (.int .i64 last)), .hs 2 0 l.length])), (2, some (.arr 4 (l.map encItem)))]⟩)
    (fun a l last => ∃ j : Nat, a = j ∧ j ≤ rs.length ∧ catL (rs.take j) = some (l, last)) (fun a _ _ => ((rs.length : Int) - a).toNat) ?_ 0 [] 0 ⟨0, rfl, by omega, rfl⟩
  rintro _ l last ⟨i, rfl, hi, hc⟩
  have p : CatP l last := (catL_ok hc).ok
  have hl8 := p.len
  have hm : (rs.map encS).length = rs.length := List.length_map ..
  have hsT : subCat l l.length last = cat l last := sub_cat rfl last
  conv => whnf
  split
  · rename_i q1
    have q1' := of_decide_eq_true q1
    have hil : i < rs.length := by omega
    have en : (i : Int).toNat = i := Int.toNat_natCast i
    have hw : IntKind.i64.wrap ((i : Int) + 1) = i + 1 := wi _ (by omega) (by omega)
    conv => whnf
    refine ⟨by omega, by omega, _, recs_at rs en hil, ?_⟩
    conv => whnf
    obtain ⟨o, ho⟩ := rec_ex (rs[i])
    have hz1 := hz (rs[i]) (List.getElem_mem hil)
    have ga := apply_ok l last (rs[i]) hz1 p o ho
    rw [← hsT] at ga
    have hd := does_of (l, last) ho
    have hcn := catL_next hil hc
    refine ⟨Nat.le_of_eq (by rw [List.length_map, Nat.zero_add]), ?_⟩
    conv => whnf
    cases o with
    | none =>
      rw [hd.1 rfl] at hcn
      rw [catL_stop hcn]
      refine .mk _ _ false Tryz.call18 ga (Nat.le_of_ble_eq_true rfl) (.inr ⟨AV.nsB_iff rfl, fun k hk => by cases hk⟩) ?_
      conv => whnf
      refine ⟨⟨⟨by decide +kernel, Nat.le_of_ble_eq_true rfl⟩, trivial⟩, ?_⟩
      conv => whnf
      exact ⟨rfl, rfl⟩
    | some q =>
      have hcn2 := hcn.trans (hd.2 q rfl)
      have ga2 : Good Tryz.prog 18 [subCat l l.length last, vstr (rs[i])] [] (appT (doC l last q)) [.arr 4 ((doC l last q).1.map encItem)] := ga
      simp only at hcn2
      generalize doC l last q = T at ga2 hcn2
      refine .mk _ _ false Tryz.call18 ga2 (Nat.le_of_ble_eq_true rfl) (.inr ⟨AV.nsB_iff rfl, arr_noSl _⟩) ?_
      conv => whnf
      cases hT0 : (T.2.2 == 0) with
      | false =>
        rw [if_neg (by simpa using hT0)] at hcn2
        rw [catL_stop hcn2]
        conv => whnf
        refine ⟨⟨⟨by decide +kernel, Nat.le_of_ble_eq_true rfl⟩, trivial⟩, ?_⟩
        conv => whnf
        exact ⟨rfl, rfl⟩
      | true =>
        rw [if_pos (by simpa using hT0)] at hcn2
        conv => whnf
        exact ⟨_, _, _, rfl, rfl, ⟨i + 1, by rw [hw]; simp, by omega, hcn2⟩, by rw [hw]; omega⟩
  · rename_i q1
    have q1' := of_decide_eq_false q1
    have e : i = rs.length := by omega
    rw [e, List.take_length] at hc
    rw [hc]
    conv => whnf
    refine ⟨⟨⟨by decide +kernel, Nat.le_of_ble_eq_true rfl⟩, trivial⟩, ?_⟩
    conv => whnf
    exact ⟨rfl, rfl⟩
end Go.Abs.C

set_option linter.unusedSimpArgs false
set_option linter.unusedVariables false
namespace Go.Abs.C
open Go Go.Abs Go.Proofs Go.RowKit
attribute [local irreducible] IntKind.wrap
open Go.Abs.W
@[reducible] noncomputable def sofR : List ByteArray → AV
  | [] => .tup [noCat, vbool true]
  | rs@(_ :: _) => ofR (catL rs)
@[reducible] noncomputable def sofB : List ByteArray → List Blk
  | [] => []
  | rs@(_ :: _) => ofB (catL rs)
theorem sofR_ne {rs : List ByteArray} (h : 0 < rs.length) : sofR rs = ofR (catL rs) := by
  cases rs with
  | nil => simp at h
  | cons a b => rfl
theorem sofB_ne {rs : List ByteArray} (h : 0 < rs.length) : sofB rs = ofB (catL rs) := by
  cases rs with
  | nil => simp at h
  | cons a b => rfl
theorem catL0 (rs : List ByteArray) : catL (rs.take 0) = some ([], 0) := rfl
set_option maxHeartbeats 16000000 in
set_option maxRecDepth 100000 in
theorem specOf_ok (rs : List ByteArray) (hl : rs.length ≤ 1100000) (hz : ∀ s ∈ rs, s.size ≤ 1100000) : Good Tryz.prog 6 [.one (.p (.sl (rs.map encS)))] [] (sofR rs) (sofB rs) := by
  have hm : (rs.map encS).length = rs.length := List.length_map ..
  refine good_e noM Tryz.func6 rfl rfl ?_
  conv => whnf
  refine VLoop.enter [0, 2, 4, 5] ?_
  conv => whnf
  refine vloop_indN noM [0, 2, 4, 5] (ι := (Int × Int) ⊕ (Int × Is × Int)) (fun i => match i with | .inl _ => 2 | .inr _ => 3)
    (fun i => match i with
      | .inl (a, k) => ⟨29, 0, [(0, .one (.p (.sl (rs.map encS)))), (2, .one (.hp 0 0 0)), (4, .one (.hp 1 0 0)), (5, vint a)], [(0, some (.box [.p (.lit (.int .i64 0)), .p (.lit (.slice none 0 0))])), (1, some (.box [.p (.lit (.int .i64 k)), .p (.lit (.slice none 0 0))]))]⟩
      | .inr (a, l, last) => ⟨29, 0, [(0, .one (.p (.sl (rs.map encS)))), (2, .one (.hp 0 0 0)), (4, .one (.hp 1 0 0)), (5, vint a)], [(0, some (.box [.p (.lit (.int .i64 0)), .p (.lit (.slice none 0 0))])), (1, some (.box [.p (.lit (.int .i64 last)), .hs 2 0 l.length])), (2, some (.arr 4 (l.map encItem)))]⟩)
    (fun i => match i with
      | .inl (a, k) => a = 0 ∧ k = 0
      | .inr (a, l, last) => ∃ j : Nat, a = j ∧ 0 < j ∧ j ≤ rs.length ∧ catL (rs.take j) = some (l, last))
    (fun i => match i with | .inl (a, _) => ((rs.length : Int) - a).toNat | .inr (a, _, _) => ((rs.length : Int) - a).toNat) ?_ (.inl (0, 0)) ⟨rfl, rfl⟩
  rintro (⟨a, k⟩ | ⟨a, l, last⟩)
  · rintro ⟨ha, hk⟩
    show vcode Tryz.prog noM _ _ 2 _
    have p : CatP [] k := by rw [hk]; exact catNil
    have en : a.toNat = 0 := by omega
    have hw : IntKind.i64.wrap (a + 1) = a + 1 := wi _ (by omega) (by omega)
    have hc : catL (rs.take 0) = some ([], k) := by rw [hk]; rfl
    conv => whnf
    split
    · rename_i q1
      have q1' := of_decide_eq_true q1
      have hil : 0 < rs.length := by omega
      rw [sofR_ne hil, sofB_ne hil]
      refine VDraw.goR [0, 0, 0, 6, 14, 31, 63, 127, 127, 0, 767, 2047] [5, 9, 10] [(10, [9])] [] rfl (by decide +kernel) ?_
      conv => whnf
      refine ⟨by omega, by omega, _, recs_at rs en hil, ?_⟩
      conv => whnf
      obtain ⟨o, ho⟩ := rec_ex (rs[0])
      have hz1 := hz (rs[0]) (List.getElem_mem hil)
      have ga := good_nilK (specDoes_ok [] k (rs[0]) hz1 p o ho)
      have hd := does_of ([], k) ho
      have hcn := catL_next hil hc
      cases o with
      | none =>
        rw [hd.1 rfl] at hcn
        rw [catL_stop hcn]
        refine .mk _ _ false Tryz.call17 ga (Nat.le_of_ble_eq_true rfl) (.inl rfl) ?_
        conv => whnf
        refine ⟨⟨⟨by decide +kernel, Nat.le_of_ble_eq_true rfl⟩, trivial⟩, ?_⟩
        conv => whnf
        exact ⟨rfl, rfl⟩
      | some q =>
        have hcn2 := hcn.trans (hd.2 q rfl)
        have ga2 : Good Tryz.prog 17 [noCatK k, vstr (rs[0])] [] (appT (doC [] k q)) [.arr 4 ((doC [] k q).1.map encItem)] := ga
        simp only at hcn2
        generalize doC [] k q = T at ga2 hcn2
        refine .mk _ _ false Tryz.call17 ga2 (Nat.le_of_ble_eq_true rfl) (.inl rfl) ?_
        conv => whnf
        cases hT0 : (T.2.2 == 0) with
        | false =>
          rw [if_neg (by simpa using hT0)] at hcn2
          rw [catL_stop hcn2]
          conv => whnf
          refine ⟨⟨⟨by decide +kernel, Nat.le_of_ble_eq_true rfl⟩, trivial⟩, ?_⟩
          conv => whnf
          exact ⟨rfl, rfl⟩
        | true =>
          rw [if_pos (by simpa using hT0)] at hcn2
          conv => whnf
          exact ⟨.inr (_, _, _), rfl, rfl, ⟨1, by rw [hw]; omega, by omega, by omega, hcn2⟩, by show ((rs.length : Int) - IntKind.i64.wrap (a + 1)).toNat < ((rs.length : Int) - a).toNat; rw [hw]; omega⟩
    · rename_i q1
      have q1' := of_decide_eq_false q1
      have e : rs = [] := List.length_eq_zero_iff.1 (by omega)
      subst e
      subst hk
      conv => whnf
      refine ⟨⟨⟨by decide +kernel, Nat.le_of_ble_eq_true rfl⟩, trivial⟩, ?_⟩
      conv => whnf
      exact ⟨rfl, rfl⟩
  · rintro ⟨i, rfl, hi0, hi, hc⟩
    show vcode Tryz.prog noM _ _ 3 _
    have p : CatP l last := (catL_ok hc).ok
    have hl8 := p.len
    have hsT : subCat l l.length last = cat l last := sub_cat rfl last
    have hil0 : 0 < rs.length := by omega
    rw [sofR_ne hil0, sofB_ne hil0]
    conv => whnf
    split
    · rename_i q1
      have q1' := of_decide_eq_true q1
      have hil : i < rs.length := by omega
      have en : (i : Int).toNat = i := Int.toNat_natCast i
      have hw : IntKind.i64.wrap ((i : Int) + 1) = i + 1 := wi _ (by omega) (by omega)
      refine VDraw.goR [0, 0, 0, 6, 14, 31, 63, 127, 127, 0, 767, 2047] [5, 9, 10] [(10, [9])] [] rfl (by decide +kernel) ?_
      conv => whnf
      refine ⟨by omega, by omega, _, recs_at rs en hil, ?_⟩
      conv => whnf
      obtain ⟨o, ho⟩ := rec_ex (rs[i])
      have hz1 := hz (rs[i]) (List.getElem_mem hil)
      have ga := specDoes_ok l last (rs[i]) hz1 p o ho
      rw [← hsT] at ga
      have hd := does_of (l, last) ho
      have hcn := catL_next hil hc
      refine ⟨Nat.le_of_eq (by rw [List.length_map, Nat.zero_add]), ?_⟩
      conv => whnf
      cases o with
      | none =>
        rw [hd.1 rfl] at hcn
        rw [catL_stop hcn]
        refine .mk _ _ false Tryz.call17 ga (Nat.le_of_ble_eq_true rfl) (.inr ⟨AV.nsB_iff rfl, fun k hk => by cases hk⟩) ?_
        conv => whnf
        refine ⟨⟨⟨by decide +kernel, Nat.le_of_ble_eq_true rfl⟩, trivial⟩, ?_⟩
        conv => whnf
        exact ⟨rfl, rfl⟩
      | some q =>
        have hcn2 := hcn.trans (hd.2 q rfl)
        have ga2 : Good Tryz.prog 17 [subCat l l.length last, vstr (rs[i])] [] (appT (doC l last q)) [.arr 4 ((doC l last q).1.map encItem)] := ga
        simp only at hcn2
        generalize doC l last q = T at ga2 hcn2
        refine .mk _ _ false Tryz.call17 ga2 (Nat.le_of_ble_eq_true rfl) (.inr ⟨AV.nsB_iff rfl, arr_noSl _⟩) ?_
        conv => whnf
        cases hT0 : (T.2.2 == 0) with
        | false =>
          rw [if_neg (by simpa using hT0)] at hcn2
          rw [catL_stop hcn2]
          conv => whnf
          refine ⟨⟨⟨by decide +kernel, Nat.le_of_ble_eq_true rfl⟩, trivial⟩, ?_⟩
          conv => whnf
          exact ⟨rfl, rfl⟩
        | true =>
          rw [if_pos (by simpa using hT0)] at hcn2
          conv => whnf
          exact ⟨.inr (_, _, _), rfl, rfl, ⟨i + 1, by rw [hw]; simp, by omega, by omega, hcn2⟩, by show ((rs.length : Int) - IntKind.i64.wrap ((i : Int) + 1)).toNat < ((rs.length : Int) - (i : Int)).toNat; rw [hw]; omega⟩
    · rename_i q1
      have q1' := of_decide_eq_false q1
      have e : i = rs.length := by omega
      rw [e, List.take_length] at hc
      rw [hc]
      conv => whnf
      refine ⟨⟨⟨by decide +kernel, Nat.le_of_ble_eq_true rfl⟩, trivial⟩, ?_⟩
      conv => whnf
      exact ⟨rfl, rfl⟩
end Go.Abs.C
