import Derived.Test.YtfhcoohdmjfkbaaDoorGCut
import Derived.Test.YtfhcoohdmjfkbaaDoorGW7
set_option linter.unusedSimpArgs false
set_option linter.unusedVariables false
namespace Go.Abs.D
open Go Go.Abs Go.Proofs Go.RowKit
theorem cat_list (a b : ByteArray) : (a ++ b).data.toList = a.data.toList ++ b.data.toList := by rw [ByteArray.data_append, Array.toList_append]
theorem dec_list (n : Nat) : (dec (n : Int)).data.toList = Lib.decDigits n := by rw [dec_eq]
def dl (n : Int) : List UInt8 := (dec n).data.toList
theorem dl_no {n : Int} (h0 : 0 ≤ n) {c : UInt8} (h : isDg c = false) : ∀ x ∈ dl n, x ≠ c := by
  obtain ⟨m, rfl⟩ := Int.eq_ofNat_of_zero_le h0
  intro x hx e
  unfold dl at hx
  rw [dec_list] at hx
  have := (decDigits_plain m).1.dg x hx
  rw [e, h] at this; cases this
theorem num_dec {n : Int} (h0 : 0 ≤ n) (h : n < 100000) : num (dec n) = some n.toNat := by
  obtain ⟨m, rfl⟩ := Int.eq_ofNat_of_zero_le h0
  show numOf (dec (m : Int)).data.toList = _
  have h1 := dec_size (n := m) (k := 4) (by omega)
  have h2 := szl (dec (m : Int))
  rw [dec_list] at h2 ⊢
  rw [Int.toNat_natCast]
  exact numOf_dec (by omega)
theorem numS_dec {n : Int} (h0 : 0 ≤ n) (h : n < 100000) : numS (mkS (dl n)) = n := by
  unfold dl numS
  rw [mkS_of, num_dec h0 h]
  exact Int.toNat_of_nonneg h0
theorem numI_dec {n : Int} (h0 : 0 ≤ n) (h : n < 100000) : numI (mkS (dl n)) = n := by
  unfold dl numI
  rw [mkS_of, num_dec h0 h]
  exact Int.toNat_of_nonneg h0
theorem pad7_seven {k : Nat} : ∀ {s : ByteArray}, 7 ≤ s.size + k → s.size ≤ 7 → (pad7 k s).size = 7 := by
  induction k with
  | zero => intro s h1 h2; show s.size = 7; omega
  | succ k ih =>
    intro s h1 h2
    unfold pad7
    split
    · rename_i q; have := of_decide_eq_true q
      have e : ((⟨#[48]⟩ : ByteArray) ++ s).size = 1 + s.size := by rw [ByteArray.size_append]; rfl
      exact ih (by rw [e]; omega) (by rw [e]; omega)
    · rename_i q; have := of_decide_eq_false q; omega
theorem seven_7 {n : Nat} (h : n < 10000000) : (seven n).size = 7 := by
  unfold seven; exact pad7_seven (by omega) (dec_size (k := 6) h)
theorem okS_f {w : RWord} (h : okS w = true) : nameOk w.f = true ∨ w.f.data.toList = [] := by
  unfold okS at h
  split at h
  · cases h
  split at h
  · cases h
  split at h
  · cases h
  split at h
  · cases h
  split at h
  · cases h
  split at h
  · split at h
    · cases h
    · rename_i q; exact .inl q
  · split at h
    · cases h
    · rename_i q
      right
      have q' : (w.f.toList == (ByteArray.mk #[]).toList) = true := by simpa using q
      rw [str_eq.1 q']
theorem name_no {s : ByteArray} (h : nameOk s = true) {c : UInt8} (hc : c.toNat < 97) : ∀ x ∈ s.data.toList, x ≠ c := by
  intro x hx e
  obtain ⟨i, hi, rfl⟩ := List.mem_iff_getElem.1 hx
  rw [szl] at hi
  unfold nameOk at h
  simp only [Bool.and_eq_true, List.all_eq_true, List.mem_range, decide_eq_true_eq] at h
  have := h.1 i hi
  rw [bt_get hi, e] at this
  omega
theorem f_no {w : RWord} (h : okS w = true) {c : UInt8} (hc : c.toNat < 97) : ∀ x ∈ w.f.data.toList, x ≠ c := by
  rcases okS_f h with q | q
  · exact name_no q hc
  · rw [q]; intro x hx; cases hx
/-- A word's text ahead of its data's mark. -/
def wl (w : RWord) : List UInt8 := dl w.a ++ 32 :: (dl w.b ++ 32 :: (dl w.c ++ 32 :: (dl w.d ++ 32 :: (dl w.e ++ 32 :: w.f.data.toList))))
theorem wbody_list (w : RWord) : (wbody w).data.toList = wl w ++ 58 :: w.g.data.toList := by
  unfold wbody wl dl sp co
  simp only [cat_list, List.append_assoc, List.cons_append, List.nil_append]
theorem wl_no {w : RWord} (h : okS w = true) (l : Lim w) : ∀ x ∈ wl w, x ≠ 58 := by
  intro x hx
  unfold wl at hx
  simp only [List.mem_append, List.mem_cons] at hx
  have h58 : isDg 58 = false := by decide
  have h32 : (32 : UInt8) ≠ 58 := by decide
  rcases hx with hx | rfl | hx | rfl | hx | rfl | hx | rfl | hx | rfl | hx
  · exact dl_no l.a0 h58 x hx
  · exact h32
  · exact dl_no l.b0 h58 x hx
  · exact h32
  · exact dl_no l.c0 h58 x hx
  · exact h32
  · exact dl_no l.d0 h58 x hx
  · exact h32
  · exact dl_no l.e0 h58 x hx
  · exact h32
  · exact f_no h (by decide) x hx
theorem wl_cuts {w : RWord} (h : okS w = true) (l : Lim w) : cuts 32 (wl w) = [dl w.a, dl w.b, dl w.c, dl w.d, dl w.e, w.f.data.toList] := by
  have h32 : isDg 32 = false := by decide
  unfold wl
  rw [cuts_app (dl_no l.a0 h32), cuts_app (dl_no l.b0 h32), cuts_app (dl_no l.c0 h32), cuts_app (dl_no l.d0 h32), cuts_app (dl_no l.e0 h32), cuts_none (idx_no (f_no h (by decide)))]
/-- The text s tells the word w. -/
structure Reads (s : ByteArray) (w : RWord) : Prop where
  ok : okS w = true
  wr : wtext w = s
theorem wtext_ok {w : RWord} (h : okS w = true) : wtext w = seven (sumTo (wbody w) (wbody w).size).toNat ++ wbody w := by unfold wtext; rw [h]
theorem wtext_bad {w : RWord} (h : okS w = false) : wtext w = ⟨#[]⟩ := by unfold wtext; rw [h]
theorem sum_lt (s : ByteArray) : (sumTo s s.size).toNat < 10000000 := by have := sumTo_rng s s.size; omega
/-- What a text behind its seven figures is. -/
def tl7 (s : ByteArray) : List UInt8 := s.data.toList.drop 7
theorem Reads.tl {s : ByteArray} {w : RWord} (h : Reads s w) : tl7 s = wl w ++ 58 :: w.g.data.toList := by
  have e := h.wr
  rw [wtext_ok h.ok] at e
  unfold tl7
  rw [← e, cat_list, List.drop_append_of_le_length (by rw [szl, seven_7 (sum_lt _)]; omega), List.drop_of_length_le (by rw [szl, seven_7 (sum_lt _)]; omega), List.nil_append, wbody_list]
theorem dl_len {n : Int} (h0 : 0 ≤ n) (h : n < 100000) : (dl n).length ≤ 5 := by unfold dl; rw [szl]; exact decI_size h0 h
theorem Reads.size {s : ByteArray} {w : RWord} (h : Reads s w) : 7 ≤ s.size ∧ s.size ≤ 160 := by
  have l := okS_lim h.ok
  have e := h.wr
  rw [wtext_ok h.ok] at e
  have hb : (wbody w).size = (wbody w).data.toList.length := (szl _).symm
  rw [wbody_list] at hb
  have h1 := dl_len l.a0 l.a1; have h2 := dl_len l.b0 l.b1; have h3 := dl_len l.c0 l.c1; have h4 := dl_len l.d0 l.d1; have h5 := dl_len l.e0 l.e1
  have h6 := l.f; have h7 := l.g
  unfold wl at hb
  simp only [List.length_append, List.length_cons, szl] at hb
  rw [← e, ByteArray.size_append, seven_7 (sum_lt _)]
  omega
theorem Reads.idx {s : ByteArray} {w : RWord} (h : Reads s w) : idx 58 (tl7 s) = some (wl w).length := by
  rw [h.tl]; exact idx_append (wl_no h.ok (okS_lim h.ok))
theorem Reads.take {s : ByteArray} {w : RWord} (h : Reads s w) : (tl7 s).take (wl w).length = wl w := by rw [h.tl]; simp
theorem Reads.drop {s : ByteArray} {w : RWord} (h : Reads s w) : (tl7 s).drop ((wl w).length + 1) = w.g.data.toList := by rw [h.tl, List.drop_append]; simp
theorem Reads.cut {s : ByteArray} {w : RWord} (h : Reads s w) : cuts 32 ((tl7 s).take (wl w).length) = [dl w.a, dl w.b, dl w.c, dl w.d, dl w.e, w.f.data.toList] := by
  rw [h.take]; exact wl_cuts h.ok (okS_lim h.ok)
/-- A word out of pieces and data. -/
def mkW (N : ByteArray → Int) (ps : List (List UInt8)) (g : List UInt8) : RWord := ⟨N (mkS (ps.getD 0 [])), N (mkS (ps.getD 1 [])), N (mkS (ps.getD 2 [])), N (mkS (ps.getD 3 [])), N (mkS (ps.getD 4 [])), mkS (ps.getD 5 []), mkS g⟩
theorem Reads.mkw {s : ByteArray} {w : RWord} (h : Reads s w) (N : ByteArray → Int) (hN : ∀ n : Int, 0 ≤ n → n < 100000 → N (mkS (dl n)) = n) :
    mkW N (cuts 32 ((tl7 s).take (wl w).length)) ((tl7 s).drop ((wl w).length + 1)) = w := by
  have l := okS_lim h.ok
  rw [h.cut, h.drop]
  unfold mkW
  simp only [List.getD_cons_zero, List.getD_cons_succ]
  rw [hN _ l.a0 l.a1, hN _ l.b0 l.b1, hN _ l.c0 l.c1, hN _ l.d0 l.d1, hN _ l.e0 l.e1, mkS_of, mkS_of]
theorem Reads.uniq {s : ByteArray} {w w' : RWord} (h : Reads s w) (h' : Reads s w') : w = w' := by
  have e : (wl w).length = (wl w').length := by
    have h1 := h.idx; have h2 := h'.idx
    rw [h1] at h2; exact Option.some.inj h2
  have h1 := h.mkw numS fun n a b => numS_dec a b
  have h2 := h'.mkw numS fun n a b => numS_dec a b
  rw [← h1, ← h2, e]
theorem reads_ex (s : ByteArray) : ∃ o : Option RWord, ∀ w, o = some w ↔ Reads s w := by
  by_cases h : ∃ w, Reads s w
  · obtain ⟨w, hw⟩ := h
    exact ⟨some w, fun w' => Iff.intro (fun e => by rw [← Option.some.inj e]; exact hw) (fun q => by rw [hw.uniq q])⟩
  · exact ⟨none, fun w => Iff.intro (fun e => nomatch e) (fun q => (h ⟨w, q⟩).elim)⟩
def w0 : RWord := ⟨0, 0, 0, 0, 0, ⟨#[]⟩, ⟨#[]⟩⟩
@[reducible] def readR (o : Option RWord) : AV := .tup [word (o.getD w0), vbool o.isSome]
theorem none_of {s : ByteArray} {o : Option RWord} (ho : ∀ w, o = some w ↔ Reads s w) (h : ∀ w, ¬ Reads s w) : o = none := by
  cases o with
  | none => rfl
  | some w => exact (h w ((ho w).1 rfl)).elim
end Go.Abs.D
