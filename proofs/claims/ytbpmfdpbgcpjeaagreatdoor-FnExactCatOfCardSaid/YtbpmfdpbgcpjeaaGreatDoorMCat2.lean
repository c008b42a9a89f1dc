import Derived.Test.YtbpmfdpbgcpjeaaGreatDoorMCat
import Derived.ArgAppend
import Derived.Laws.Slices
import Derived.Laws.OwnMore
import Derived.WalkKit
import Derived.RowKit3
import Derived.Shelf.RegionOpenPlain
set_option linter.unusedSimpArgs false
set_option linter.unusedVariables false
namespace Go.Abs.C
open Go Go.Abs Go.Proofs
attribute [local irreducible] IntKind.wrap
@[reducible] def encU (n : Int) : List PV := [.lit (.int .u8 n)]
@[reducible] def rdB (bs : List Int) (p : Int) : Blk := .box [.p (.sl (bs.map encU)), .p (.lit (.int .i64 p))]
theorem xor_nn {x y : Int} (h1 : 0 ≤ x) (h2 : x < 1099511627776) (h3 : 0 ≤ y) (h4 : y < 1099511627776) : 0 ≤ IntKind.i64.wrap (((BitVec.ofInt IntKind.i64.bits x ^^^ BitVec.ofInt IntKind.i64.bits y).toNat : Nat) : Int) := by
  obtain ⟨a, rfl⟩ := Int.eq_ofNat_of_zero_le h1
  obtain ⟨b, rfl⟩ := Int.eq_ofNat_of_zero_le h3
  have ha : a < 2 ^ 40 := by omega
  have hb : b < 2 ^ 40 := by omega
  have hx := Nat.xor_lt_two_pow ha hb
  have e : (BitVec.ofInt IntKind.i64.bits (a : Int) ^^^ BitVec.ofInt IntKind.i64.bits (b : Int)).toNat = a ^^^ b := by
    rw [BitVec.toNat_xor, BitVec.toNat_ofInt, BitVec.toNat_ofInt]
    have e1 : ((a : Int) % ((2 ^ IntKind.i64.bits : Nat) : Int)).toNat = a := by
      show ((a : Int) % ((2 ^ 64 : Nat) : Int)).toNat = a
      omega
    have e2 : ((b : Int) % ((2 ^ IntKind.i64.bits : Nat) : Int)).toNat = b := by
      show ((b : Int) % ((2 ^ 64 : Nat) : Int)).toNat = b
      omega
    rw [e1, e2]
  rw [e, wrap_in _ (by omega) (by omega)]
  omega
set_option maxHeartbeats 8000000 in
set_option maxRecDepth 100000 in
theorem pick_ok (bs : List Int) (p n : Int) (hb : ∀ x ∈ bs, 0 ≤ x ∧ x ≤ 255) (hl : bs.length ≤ 2000) (h0 : 0 ≤ p) (h1 : p < 1000000) (hn : 1 ≤ n) (hn2 : n < 1000) :
    ∃ r out, (∃ v : Int, 0 ≤ v ∧ v < n ∧ r = vint v ∧ out = [rdB bs (p + 1)]) ∧ Good Tryz.prog 24 [.one (.hp 0 0 0), vint n] [rdB bs p] r out := by
  refine good_v noM Tryz.func24 rfl rfl ?_
  have w1 : IntKind.i64.wrap (p + 1) = p + 1 := wrap_in _ (by omega) (by omega)
  have w2 : IntKind.i64.wrap (p + 1 - 1) = p := by rw [wrap_in _ (by omega) (by omega)]; omega
  conv => whnf
  rw [w1]
  split
  · rename_i h; have := of_decide_eq_true h; omega
  rename_i h
  conv => whnf
  split
  · rename_i h2
    conv => whnf
    refine ⟨trivial, ?_⟩
    conv => whnf
    exact ⟨0, by omega, by omega, rfl, rfl⟩
  rename_i h2
  have h2' : ((bs.map encU).length : Int) ≠ 0 := by simpa using h2
  rw [List.length_map] at h2'
  conv => whnf
  rw [w2]
  split
  · rename_i h3
    have h3' := of_decide_eq_true h3
    rw [List.length_map] at h3'
    conv => whnf
    refine ⟨by omega, by rw [List.length_map]; omega, _, getD_map encU bs _ 0 (by omega), ?_⟩
    conv => whnf
    refine ⟨trivial, ?_⟩
    conv => whnf
    have hbv := hb (bs.getD p.toNat 0) (by rw [List.getD_eq_getElem?_getD, List.getElem?_eq_getElem (by omega)]; exact List.getElem_mem _)
    rw [abin_rem (a := IntKind.i64.wrap (bs.getD p.toNat 0)) (b := n) rfl rfl (by omega)]
    conv => whnf
    refine ⟨trivial, ?_⟩
    conv => whnf
    rw [wrap_in _ (by omega) (by omega), Int.tmod_eq_emod_of_nonneg (by omega)]
    exact ⟨_, Int.emod_nonneg _ (by omega), Int.emod_lt_of_pos _ (by omega), rfl, rfl⟩
  rename_i h3
  have h3' := of_decide_eq_false h3
  rw [List.length_map] at h3'
  conv => whnf
  refine VDraw.go ⟨265, [0, 1, 3, 7, 0, 0, 32, 96, 224, 480, 1008, 2047, 4095, 8191, 16383, 0, 32768, 98304, 229376, 0, 524288, 1572864, 0, 4194304, 12582912, 29360128, 62914560, 133693440, 268402688, 536838144, 1073709056, 2147450880, 4294967295, 0, 8589934592, 34359738367, 0, 0, 137438953472, 412316860416, 962072674304, 2061584302080, 4329327034368, 8727373545472, 17592186044415, 35184372088831], [13, 30], []⟩ rfl rfl (by decide +kernel) ?_
  conv => whnf
  have hL : ((bs.map encU).length : Int) = bs.length := by rw [List.length_map]
  have hr1 : ∀ q : Int, 0 ≤ q → 0 ≤ q.tmod ((bs.map encU).length : Int) ∧ q.tmod ((bs.map encU).length : Int) < ((bs.map encU).length : Int) := fun q hq => by
    rw [Int.tmod_eq_emod_of_nonneg hq]; exact ⟨Int.emod_nonneg _ (by omega), Int.emod_lt_of_pos _ (by omega)⟩
  have hbv : ∀ q : Int, 0 ≤ q → q < bs.length → 0 ≤ bs.getD q.toNat 0 ∧ bs.getD q.toNat 0 ≤ 255 := fun q h1 h2 => hb _ (by rw [List.getD_eq_getElem?_getD, List.getElem?_eq_getElem (by omega)]; exact List.getElem_mem _)
  rw [abin_rem (a := p) (b := ((bs.map encU).length : Int)) rfl rfl (by omega)]
  conv => whnf
  have ha := hr1 p h0
  generalize p.tmod ((bs.map encU).length : Int) = q1 at ha ⊢
  have hq1 := hbv q1 (by omega) (by omega)
  refine ⟨by omega, by omega, _, getD_map encU bs _ 0 (by omega), ?_⟩
  conv => whnf
  refine ⟨trivial, ?_⟩
  conv => whnf
  have w7 : IntKind.i64.wrap (IntKind.i64.wrap (p * 7) + 3) = p * 7 + 3 := by rw [wrap_in (p * 7) (by omega) (by omega), wrap_in _ (by omega) (by omega)]
  rw [abin_rem (a := IntKind.i64.wrap (IntKind.i64.wrap (p * 7) + 3)) (b := ((bs.map encU).length : Int)) rfl rfl (by omega)]
  rw [w7]
  conv => whnf
  have ha2 := hr1 (p * 7 + 3) (by omega)
  generalize (p * 7 + 3).tmod ((bs.map encU).length : Int) = q2 at ha2 ⊢
  have hq2 := hbv q2 (by omega) (by omega)
  refine ⟨by omega, by omega, _, getD_map encU bs _ 0 (by omega), ?_⟩
  conv => whnf
  refine ⟨trivial, ?_⟩
  conv => whnf
  rw [abin_quo (a := p) (b := ((bs.map encU).length : Int)) rfl rfl (by omega)]
  conv => whnf
  have hq3 : 0 ≤ p.tdiv ((bs.map encU).length : Int) ∧ p.tdiv ((bs.map encU).length : Int) ≤ p := by
    rw [Int.tdiv_eq_ediv_of_nonneg h0]
    exact ⟨Int.ediv_nonneg h0 (by omega), Int.ediv_le_self _ h0⟩
  generalize p.tdiv ((bs.map encU).length : Int) = q3 at hq3 ⊢
  rw [abin_rem (k := IntKind.i64) (b := n) rfl rfl (by omega)]
  conv => whnf
  refine ⟨trivial, ?_⟩
  conv => whnf
  refine ⟨_, ?_, ?_, rfl, rfl⟩
  · refine Int.tmod_nonneg _ ?_
    have w : ∀ x : Int, 0 ≤ x → x < 1099511627776 → IntKind.i64.wrap x = x := fun x h1 h2 => wrap_in _ (by omega) (by omega)
    simp (disch := omega) only [w]
    have hX0 : 0 ≤ bs.getD q1.toNat 0 * 131 + bs.getD q2.toNat 0 * 1117 + p * 29 + q3 * 53 := by omega
    have hX1 : bs.getD q1.toNat 0 * 131 + bs.getD q2.toNat 0 * 1117 + p * 29 + q3 * 53 < 1099511627776 := by omega
    generalize bs.getD q1.toNat 0 * 131 + bs.getD q2.toNat 0 * 1117 + p * 29 + q3 * 53 = X at hX0 hX1 ⊢
    have hd : IntKind.i64.wrap (X.tdiv 64) = X / 64 := by rw [Int.tdiv_eq_ediv_of_nonneg hX0, wrap_in _ (by omega) (by omega)]
    refine xor_nn hX0 hX1 ?_ ?_
    · rw [hd]; omega
    · rw [hd]; omega
  · exact Int.tmod_lt_of_pos _ (by omega)
structure Bytes (bs : List Int) : Prop where
  rng : ∀ x ∈ bs, 0 ≤ x ∧ x ≤ 255
  len : bs.length ≤ 2000
set_option maxHeartbeats 8000000 in
set_option maxRecDepth 100000 in
theorem l1Open_ok (bs : List Int) (hb : ∀ x ∈ bs, 0 ≤ x ∧ x ≤ 255) (hl : bs.length ≤ 9223372036854775807) :
    ∃ r out, (∃ bs', Bytes bs' ∧ r = .one (.hp 0 0 0) ∧ out = [rdB bs' 0]) ∧ Good Tryz.prog 23 [.one (.p (.sl (bs.map encU)))] [] r out := by
  refine good_v noM Tryz.func23 rfl rfl ?_
  conv => whnf
  split
  · rename_i h
    have h' := of_decide_eq_true h
    rw [List.length_map] at h'
    conv => whnf
    refine ⟨⟨by decide, by decide, by rw [List.length_map]; omega, by decide +kernel, fun x hx => by obtain ⟨y, _, rfl⟩ := List.mem_map.1 hx; rw [show Tryz.prog.cellsOf 5 = 1 by decide +kernel]; rfl⟩, ?_⟩
    conv => whnf
    refine ⟨trivial, ?_⟩
    conv => whnf
    refine ⟨bs.take 2000, ⟨fun x hx => hb x (List.mem_of_mem_take hx), by rw [List.length_take]; omega⟩, rfl, ?_⟩
    show [Blk.box [.p (.sl (List.take 2000 (List.drop 0 (bs.map encU)))), .p (.lit (.int .i64 0))]] = _
    rw [List.drop_zero, ← List.map_take]
  · rename_i h
    have h' := of_decide_eq_false h
    rw [List.length_map] at h'
    conv => whnf
    refine ⟨trivial, ?_⟩
    conv => whnf
    exact ⟨bs, ⟨hb, by omega⟩, rfl, rfl⟩
@[reducible] def encS (s : ByteArray) : List PV := [.lit (.string s)]
set_option maxHeartbeats 16000000 in
set_option maxRecDepth 100000 in
theorem of_ok (bs : List Int) (p : Int) (L : List ByteArray) (hb : Bytes bs) (h0 : 0 ≤ p) (h1 : p < 1000000) (hn : 1 ≤ L.length) (hn2 : L.length < 1000) :
    ∃ r out, (∃ s, s ∈ L ∧ r = vstr s ∧ out = [rdB bs (p + 1)]) ∧ Good Tryz.prog 26 [.one (.hp 0 0 0), .one (.p (.sl (L.map encS)))] [rdB bs p] r out := by
  have hm : (L.map encS).length = L.length := by rw [List.length_map]
  refine good_v noM Tryz.func26 rfl rfl ?_
  conv => whnf
  rw [hm]
  obtain ⟨_, _, ⟨v, hv0, hv1, rfl, rfl⟩, hg⟩ := pick_ok bs p L.length hb.rng hb.len h0 h1 (by omega) (by omega)
  refine .mk _ _ false Tryz.call24 hg (Nat.le_of_ble_eq_true rfl) (.inl rfl) ?_
  conv => whnf
  refine ⟨by omega, by omega, _, getD_map encS L v.toNat ByteArray.empty (by omega), ?_⟩
  conv => whnf
  refine ⟨trivial, ?_⟩
  conv => whnf
  exact ⟨L.getD v.toNat ByteArray.empty, by rw [List.getD_eq_getElem?_getD, List.getElem?_eq_getElem (by omega)]; exact List.getElem_mem _, rfl, rfl⟩
theorem bytes5 : Tryz.prog.bytesOf 5 + 1 ≤ 100 := by decide +kernel
theorem appB5 {n : Nat} (h : n ≤ 1100000) : n * (Tryz.prog.bytesOf 5 + 1) ≤ 140737488355328 := Nat.le_trans (Nat.mul_le_mul h bytes5) (by decide)
end Go.Abs.C

set_option linter.unusedSimpArgs false
set_option linter.unusedVariables false
namespace Go.Abs.C
open Go Go.Abs Go.Proofs
attribute [local irreducible] IntKind.wrap
/-- What holds no more of a value than of another: a nil slice is a slice without elements. -/
theorem RepC.nil {w : World} {S : Nat → Prop} {σ : Nat → Loc} {v : Value} (h : RepC w S σ (.p (.lit (.slice none 0 0))) v) : RepC w S σ (.p (.sl [])) v := by
  cases h with
  | p h => cases h; exact .p (.nil _ _)
theorem noCat_rep {w : World} {S : Nat → Prop} {σ : Nat → Loc} {v : Value} (h : RepV w S σ noCat v) : RepV w S σ (cat [] 0) v := by
  cases h with
  | agg _ vs hl h =>
    refine .agg _ vs hl fun i c v h1 h2 => ?_
    rcases i with _ | _ | i
    · exact h 0 _ v rfl h2 |> fun q => by cases h1; exact q
    · cases h1; exact RepC.nil (h 1 _ v rfl h2)
    · simp at h1
/-- A contract for the empty catalogue holds for one without memory. -/
theorem good_nil {f : FuncId} {args : List AV} {lent : List Blk} {r : AV} {out : List Blk} (h : Good Tryz.prog f (cat [] 0 :: args) lent r out) : Good Tryz.prog f (noCat :: args) lent r out := by
  intro w vs σ S hl hr hin
  refine h w vs σ S hl (fun i av v h1 h2 => ?_) (fun av hm => ?_)
  · rcases i with _ | i
    · cases h1; exact noCat_rep (hr 0 _ v rfl h2)
    · exact hr (i + 1) av v h1 h2
  · rcases List.mem_cons.1 hm with rfl | hm
    · exact .agg fun c hc => by
        simp only [List.map_nil, List.mem_cons, List.not_mem_nil, or_false] at hc
        rcases hc with rfl | rfl <;> trivial
    · exact hin av (List.mem_cons_of_mem _ hm)

set_option maxHeartbeats 16000000 in
set_option maxRecDepth 100000 in
theorem l9Take_ok (l : Is) (last : Int) (k : Nat) (hk : k < l.length) (hl8 : l.length ≤ 8) : Good Tryz.prog 56 [cat l last, vint k] [] (own (delAt l k) last) [.arr 4 ((delAt l k).map encItem)] := by
  have hm : (l.map encItem).length = l.length := by rw [List.length_map]
  have en : (k : Int).toNat = k := Int.toNat_natCast k
  have hw : IntKind.i64.wrap ((k : Int) + 1) = ((k + 1 : Nat) : Int) := wi _ (by omega) (by omega)
  have en1 : ((k + 1 : Nat) : Int).toNat = k + 1 := Int.toNat_natCast _
  have ek : List.take ((k : Int).toNat - Int.toNat 0) (List.drop (Int.toNat 0) (l.map encItem)) = (l.take k).map encItem := by
    rw [en]; show List.take (k - 0) (List.drop 0 _) = _; rw [List.drop_zero, Nat.sub_zero, List.map_take]
  have ed : List.take (((l.map encItem).length : Int).toNat - ((k + 1 : Nat) : Int).toNat) (List.drop ((k + 1 : Nat) : Int).toNat (l.map encItem)) = (l.drop (k + 1)).map encItem := by
    rw [en1, Int.toNat_natCast, List.take_of_length_le (by rw [List.length_drop]; omega), List.map_drop]
  have lt8 : ((l.take k).map encItem).length ≤ 8 := by rw [List.length_map, List.length_take]; omega
  have ld8 : ((l.drop (k + 1)).map encItem).length ≤ 8 := by rw [List.length_map, List.length_drop]; omega
  refine good_e noM Tryz.func56 rfl rfl ?_
  conv => whnf
  refine VDraw.go ⟨16, [0, 1, 0, 0, 8, 0, 56, 124, 0, 256, 0, 1024, 3840, 8188, 16383, 32767], [2, 7, 13, 15], [(7, [32]), (13, [72]), (15, [8])]⟩ rfl rfl (by decide +kernel) ?_
  conv => whnf
  refine ⟨⟨by omega, by omega, by omega, by decide +kernel, fun x hx => (enc_len l x hx).trans (by decide +kernel)⟩, ?_⟩
  rw [ek]
  conv => whnf
  refine ⟨⟨rfl, rfl, rfl⟩, trivial, ?_⟩
  conv => whnf
  refine ⟨(fun q => by cases q), appB (show 0 + ((l.take k).map encItem).length ≤ 1100000 by omega), enc_len _, ?_⟩
  conv => whnf
  rw [hw]
  refine ⟨⟨by omega, by omega, by omega, by decide +kernel, fun x hx => (enc_len l x hx).trans (by decide +kernel)⟩, ?_⟩
  rw [ed]
  conv => whnf
  refine ⟨⟨rfl, (by rw [List.length_append]), rfl⟩, trivial, ?_⟩
  conv => whnf
  refine ⟨(fun q => by cases q), appB (by rw [List.length_append]; show (0 + ((l.take k).map encItem).length) + _ ≤ 1100000; omega), enc_len _, ?_⟩
  conv => whnf
  refine ⟨⟨⟨by decide +kernel, Nat.le_of_ble_eq_true rfl⟩, trivial⟩, ?_⟩
  conv => whnf
  refine ⟨hs_len2 ?_ rfl, congrArg (fun E => [Blk.arr 4 E]) (show ([] ++ (l.take k).map encItem) ++ (l.drop (k + 1)).map encItem = _ from ?_)⟩
  · try simp only [List.length_append]
    rw [delAt_len hk]
    show 0 + ((l.take k).map encItem).length + ((l.drop (k + 1)).map encItem).length = _
    rw [List.length_map, List.length_map, List.length_take, List.length_drop]; omega
  · unfold delAt
    rw [List.map_append, List.nil_append]
set_option maxHeartbeats 16000000 in
set_option maxRecDepth 100000 in
theorem specTake_ok (l : Is) (last h : Int) (n : ByteArray) (hs : ∀ x ∈ l, x.b.size ≤ 9223372036854775807) (p : CatP l last) : Good Tryz.prog 35 [cat l last, vint h, vstr n] [] (putR (takeC l last h n)) (putB (takeC l last h n)) := by
  have hl8 := p.len
  refine good_e noM Tryz.func35 rfl rfl ?_
  conv => whnf
  refine .mk _ _ false Tryz.call53 (specOk_ok l last (by omega) hs) (Nat.le_of_ble_eq_true rfl) (.inl rfl) ?_
  rw [catOk_true p]
  conv => whnf
  refine .mk _ _ false Tryz.call54 (l9At_ok l last h n (by omega)) (Nat.le_of_ble_eq_true rfl) (.inl rfl) ?_
  conv => whnf
  generalize hT : takeC l last h n = T
  unfold takeC at hT
  split
  · rename_i q
    rw [q] at hT
    try simp only at hT
    subst hT
    conv => whnf
    refine .mk _ _ false Tryz.call55 (l9Copy_ok l last (by omega)) (Nat.le_of_ble_eq_true rfl) (.inl rfl) ?_
    conv => whnf
    refine ⟨⟨⟨by decide +kernel, Nat.le_of_ble_eq_true rfl⟩, trivial⟩, ?_⟩
    conv => whnf
    exact ⟨rfl, rfl⟩
  · rename_i q
    rw [q] at hT
    try simp only at hT
    subst hT
    have q' := of_decide_eq_false q
    have hfp := findI_pos (p := fun x => same x h n) (l := l) (by omega)
    have hge : 0 ≤ findI (fun x => same x h n) l := by omega
    generalize findI (fun x => same x h n) l = K at hfp hge ⊢
    obtain ⟨k, rfl⟩ := Int.eq_ofNat_of_zero_le hge
    rw [Int.toNat_natCast] at hfp ⊢
    conv => whnf
    refine .mk _ _ false Tryz.call56 (l9Take_ok l last k hfp.1 hl8) (Nat.le_of_ble_eq_true rfl) (.inl rfl) ?_
    conv => whnf
    refine ⟨⟨⟨by decide +kernel, Nat.le_of_ble_eq_true rfl⟩, trivial⟩, ?_⟩
    conv => whnf
    exact ⟨rfl, rfl⟩
end Go.Abs.C

set_option linter.unusedSimpArgs false
set_option linter.unusedVariables false
namespace Go.Abs.C
open Go Go.Abs Go.Proofs
attribute [local irreducible] IntKind.wrap

theorem CatP.names {l : Is} {last : Int} (p : CatP l last) : ∀ x ∈ l, x.b.size ≤ 6 := by
  intro x hx
  obtain ⟨k, hk, rfl⟩ := List.mem_iff_getElem.1 hx
  have := (p.at_ k hk).ok
  rw [ia_lt hk] at this
  unfold itemOk nameOk at this
  simp only [Bool.and_eq_true] at this
  have := (inR_iff.1 this.2.1.2).2
  omega
theorem catNil : CatP [] 0 := ⟨by decide, by decide, fun i hi => by simp at hi, by decide, by decide⟩
theorem vloop_indN {P : Program} {ι : Type} (M : FuncId → Bool) (ts : List Tmp) {c : Code} {Q : Exit → Nat → St → Prop} (n0 : ι → Nat) (S : ι → St) (I : ι → Prop) (m : ι → Nat)
    (round : ∀ i, I i → vcode P M c (andThen (fun _ s => atHead s ts fun n1 s1 => ∃ j, n1 = n0 j ∧ s1 = S j ∧ I j ∧ m j < m i) Q) (n0 i) (S i)) : ∀ i, I i → VLoop P c Q (n0 i) (S i) :=
  have key : ∀ k i, m i = k → I i → ALoop P c Q (n0 i) (S i) := by
    intro k
    induction k using Nat.strongRecOn with
    | _ k ih =>
      intro i hk hi
      refine aloop_step ((vcode_sound c (round i hi)).mono (andThen_mono ?_))
      intro n s hh
      obtain ⟨n1, s1, hs, j, rfl, rfl, hj, hlt⟩ := atHead_sub hh
      exact ALoop.sub hs.1 (ih (m j) (hk ▸ hlt) j rfl hj)
  fun i hi => ⟨key _ i rfl hi⟩
def nms : List ByteArray := [⟨#[97]⟩, ⟨#[98]⟩, ⟨#[99, 99]⟩, ⟨#[100]⟩]
theorem nms_size : ∀ s ∈ nms, s.size ≤ 2 := by decide
end Go.Abs.C

set_option linter.unusedSimpArgs false
set_option linter.unusedVariables false
namespace Go.Abs.C
open Go Go.Abs Go.Proofs
attribute [local irreducible] IntKind.wrap

/-- What is told of a drawn catalogue: it is short, and its texts are. -/
structure Small (l : Is) : Prop where
  len : l.length ≤ 9
  nm : ∀ x ∈ l, x.b.size ≤ 1000
  tx : ∀ x ∈ l, x.d.size ≤ 200000
theorem CatP.sml {l : Is} {last : Int} (p : CatP l last) : Small l := ⟨Nat.le_trans p.len (by decide), fun x hx => Nat.le_trans (p.names x hx) (by decide), fun x hx => Nat.le_trans (p.small x hx) (by decide)⟩
theorem Small.set {l : Is} (h : Small l) {i : Nat} {x : RItem} (h1 : x.b.size ≤ 1000) (h2 : x.d.size ≤ 200000) : Small (l.set i x) := by
  refine ⟨by rw [List.length_set]; exact h.len, fun y hy => ?_, fun y hy => ?_⟩
  · rcases List.mem_or_eq_of_mem_set hy with hy | rfl
    · exact h.nm y hy
    · exact h1
  · rcases List.mem_or_eq_of_mem_set hy with hy | rfl
    · exact h.tx y hy
    · exact h2
theorem Small.at_ {l : Is} (h : Small l) {i : Nat} (hi : i < l.length) : (ia l i).b.size ≤ 1000 ∧ (ia l i).d.size ≤ 200000 := by
  rw [ia_lt hi]; exact ⟨h.nm _ (List.getElem_mem hi), h.tx _ (List.getElem_mem hi)⟩
theorem set_enc (l : Is) (h : Nat) (x : RItem) : (l.map encItem).set h (encItem x) = (l.set h x).map encItem := by rw [List.map_set]
@[reducible] def encI (n : Int) : List PV := [.lit (.int .i64 n)]
theorem getD_int (L : List Int) {j i : Nat} (e : j = i) (h : i < L.length) : (L.map encI).getD j [] = encI (L.getD i 0) := by rw [e]; exact getD_map encI L i 0 h
def AnyR (bs : List Int) (b : Int) (r : AV) (out : List Blk) : Prop :=
  (∃ q, 0 ≤ q ∧ q ≤ b ∧ r = noCat ∧ out = [rdB bs q]) ∨ (∃ (l : Is) (last q : Int) (n : Nat), Small l ∧ n = l.length ∧ 0 ≤ q ∧ q ≤ b ∧ r = .agg [.p (.lit (.int .i64 last)), .hs 1 0 n] ∧ out = [rdB bs q, .arr 4 (l.map encItem)])
end Go.Abs.C

set_option linter.unusedSimpArgs false
set_option linter.unusedVariables false
namespace Go.Abs.C
open Go Go.Abs Go.Proofs
attribute [local irreducible] IntKind.wrap

/-- A drawn catalogue, as a value with its blocks (block 0 first). -/
def DrawR (r : AV) (rest : List AV) (out : List Blk) : Prop :=
  (r = .tup (noCat :: rest) ∧ out = []) ∨ (∃ (l : Is) (last : Int) (n : Nat), Small l ∧ n = l.length ∧ r = .tup (.agg [.p (.lit (.int .i64 last)), .hs 0 0 n] :: rest) ∧ out = [.arr 4 (l.map encItem)])
end Go.Abs.C

set_option linter.unusedSimpArgs false
set_option linter.unusedVariables false
namespace Go.Abs.C
open Go Go.Abs Go.Proofs
attribute [local irreducible] IntKind.wrap

@[reducible] def gotR (l : Is) (k : Int) : AV := .tup [.agg ((encItem (ia l k.toNat)).map .p), vbool true]
@[reducible] def gotNo : AV := .tup [.agg ((encItem zItem).map .p), vbool false]
set_option maxHeartbeats 16000000 in
set_option maxRecDepth 100000 in
theorem whCat_ok (l : Is) (last : Int) (hl : l.length < 1100000) : Good Tryz.prog 15 [cat l last, cat l last] [] (vbool true) [] := by
  have hm : (l.map encItem).length = l.length := by rw [List.length_map]
  refine good_e noM Tryz.func15 rfl rfl ?_
  conv => whnf
  split
  · rename_i q; simp at q
  conv => whnf
  split
  · rename_i q; simp at q
  conv => whnf
  refine VLoop.enter [2, 3, 5] ?_
  conv => whnf
  refine VLoop.ind1 (n0 := 2) (α := Int) noM [2, 3, 5] (fun a => ⟨38, 0, [(2, .one (.hp 0 0 0)), (3, .one (.hp 1 0 0)), (5, vint a)], [(0, some (.box [.p (.lit (.int .i64 last)), .p (.sl (l.map encItem))])), (1, some (.box [.p (.lit (.int .i64 last)), .p (.sl (l.map encItem))]))]⟩)
    (fun a => ∃ i : Nat, a = i ∧ i ≤ l.length) (fun a => ((l.length : Int) - a).toNat) ?_ 0 ⟨0, rfl, by omega⟩
  rintro _ ⟨i, rfl, hi⟩
  conv => whnf
  split
  · rename_i q1
    have q1' := of_decide_eq_true q1
    have hil : i < l.length := by omega
    have en : (i : Int).toNat = i := Int.toNat_natCast i
    have hw : IntKind.i64.wrap ((i : Int) + 1) = i + 1 := wi _ (by omega) (by omega)
    conv => whnf
    refine VDraw.go ⟨_, [0, 1, 0, 7, 15, 0, 32, 0, 224, 480, 1023], [], []⟩ rfl rfl (by decide +kernel) ?_
    conv => whnf
    refine ⟨by omega, by omega, _, ia_at l en hil, ?_⟩
    conv => whnf
    refine ⟨by omega, by omega, _, ia_at l en hil, ?_⟩
    conv => whnf
    refine ⟨by decide +kernel, by decide +kernel, ?_⟩
    conv => whnf
    split
    · rename_i q; simp at q
    conv => whnf
    exact ⟨_, rfl, rfl, ⟨i + 1, by rw [hw]; simp, by omega⟩, by rw [hw]; omega⟩
  · conv => whnf
    refine ⟨trivial, ?_⟩
    conv => whnf
    exact ⟨rfl, rfl⟩
theorem good_nil2 {f : FuncId} {a : AV} {args : List AV} {lent : List Blk} {r : AV} {out : List Blk} (h : Good Tryz.prog f (a :: cat [] 0 :: args) lent r out) : Good Tryz.prog f (a :: noCat :: args) lent r out := by
  intro w vs σ S hl hr hin
  refine h w vs σ S hl (fun i av v h1 h2 => ?_) (fun av hm => ?_)
  · rcases i with _ | _ | i
    · exact hr 0 av v h1 h2
    · cases h1; exact noCat_rep (hr 1 _ v rfl h2)
    · exact hr (i + 2) av v h1 h2
  · rcases List.mem_cons.1 hm with rfl | hm
    · exact hin _ (List.mem_cons_self ..)
    rcases List.mem_cons.1 hm with rfl | hm
    · exact .agg fun c hc => by
        simp only [List.map_nil, List.mem_cons, List.not_mem_nil, or_false] at hc
        rcases hc with rfl | rfl <;> trivial
    · exact hin av (List.mem_cons_of_mem _ (List.mem_cons_of_mem _ hm))
theorem whCat_no : Good Tryz.prog 15 [noCat, noCat] [] (vbool true) [] := good_nil (good_nil2 (whCat_ok [] 0 (by decide)))
end Go.Abs.C

set_option linter.unusedSimpArgs false
set_option linter.unusedVariables false
namespace Go.Abs.C
open Go Go.Abs Go.Proofs
attribute [local irreducible] IntKind.wrap

/-- What the laws need of a put that went well. -/
structure PutF (l : Is) (last h : Int) (n t : ByteArray) (X : Is) (k : Nat) : Prop where
  ok : CatP X (last + 1)
  len : X.length = l.length + 1
  fk : findI (fun x => same x h n) X = k
  ik : ia X k = ⟨h, n, last + 1, t⟩
  ek : findI (fun x => x.c == last + 1) X = k
  old : ∀ i, i < l.length → ∃ j : Nat, findI (fun x => same x (ia l i).a (ia l i).b) X = j ∧ ia X j = ia l i
  it : itemOk ⟨h, n, 0, t⟩ = true
theorem Putted.facts {l : Is} {last h : Int} {n t : ByteArray} {T : Is × Int × Int} (p : CatP l last) (q : Putted l last h n t T) : ∃ k, PutF l last h n t T.1 k := by
  obtain ⟨k, hk, hX⟩ := q.k
  have hi := ia_putAt (t := ⟨h, n, last + 1, t⟩) hk
  rw [← hX] at hi
  have ik : ia T.1 k = ⟨h, n, last + 1, t⟩ := by rw [hi, if_neg (by omega), if_pos rfl]
  have hkX : k < T.1.length := by rw [q.len]; omega
  refine ⟨k, q.ok, q.len, ?_, ik, ?_, fun i hil => ?_, q.it⟩
  · have := find_self q.ok hkX
    rw [ik] at this; exact this
  · have := edit_self q.ok hkX
    rw [ik] at this; exact this
  · by_cases e : i < k
    · have h1 : ia T.1 i = ia l i := by rw [hi, if_pos e]
      have h2 := find_self q.ok (j := i) (by rw [q.len]; omega)
      rw [h1] at h2
      exact ⟨i, h2, h1⟩
    · have h1 : ia T.1 (i + 1) = ia l i := by rw [hi, if_neg (by omega), if_neg (by omega), Nat.add_sub_cancel]
      have h2 := find_self q.ok (j := i + 1) (by rw [q.len]; omega)
      rw [h1] at h2
      exact ⟨i + 1, h2, h1⟩
theorem PutF.again {l X : Is} {last h : Int} {n t : ByteArray} {k : Nat} (q : PutF l last h n t X k) : putC X (last + 1) h n ⟨#[121]⟩ = (X, last + 1, 2) := by
  have h1 : itemOk ⟨h, n, 0, ⟨#[121]⟩⟩ = true := by
    have := q.it
    unfold itemOk at this ⊢
    simp only [Bool.and_eq_true] at this ⊢
    exact ⟨this.1, this.2.1, rfl⟩
  unfold putC
  rw [h1]
  simp only
  rw [q.fk, decide_eq_true (by omega)]
theorem u8_rng {n : Int} (h : (Lit.int .u8 n).wf = true) : 0 ≤ n ∧ n ≤ 255 := by
  simp only [Lit.wf, Bool.and_eq_true, decide_eq_true_eq] at h
  have e1 : IntKind.u8.min = 0 := by decide
  have e2 : IntKind.u8.max = 255 := by decide
  omega
@[reducible] def noCatK (k : Int) : AV := .agg [.p (.lit (.int .i64 k)), .p (.lit (.slice none 0 0))]
theorem noCatK_rep {k : Int} {w : World} {S : Nat → Prop} {σ : Nat → Loc} {v : Value} (h : RepV w S σ (noCatK k) v) : RepV w S σ (cat [] k) v := by
  cases h with
  | agg _ vs hl h =>
    refine .agg _ vs hl fun i c v h1 h2 => ?_
    rcases i with _ | _ | i
    · exact h 0 _ v rfl h2 |> fun q => by cases h1; exact q
    · cases h1; exact RepC.nil (h 1 _ v rfl h2)
    · simp at h1
theorem catK_inA {k : Int} {A : Nat → Prop} : AV.InA A (cat [] k) := inA_agg (ps := [.lit (.int .i64 k), .sl []])
theorem good_nilK {k : Int} {f : FuncId} {args : List AV} {lent : List Blk} {r : AV} {out : List Blk} (h : Good Tryz.prog f (cat [] k :: args) lent r out) : Good Tryz.prog f (noCatK k :: args) lent r out := by
  intro w vs σ S hl hr hin
  refine h w vs σ S hl (fun i av v h1 h2 => ?_) (fun av hm => ?_)
  · rcases i with _ | i
    · cases h1; exact noCatK_rep (hr 0 _ v rfl h2)
    · exact hr (i + 1) av v h1 h2
  · rcases List.mem_cons.1 hm with rfl | hm
    · exact catK_inA
    · exact hin av (List.mem_cons_of_mem _ hm)
theorem good_nil2K {k : Int} {f : FuncId} {a : AV} {args : List AV} {lent : List Blk} {r : AV} {out : List Blk} (h : Good Tryz.prog f (a :: cat [] k :: args) lent r out) : Good Tryz.prog f (a :: noCatK k :: args) lent r out := by
  intro w vs σ S hl hr hin
  refine h w vs σ S hl (fun i av v h1 h2 => ?_) (fun av hm => ?_)
  · rcases i with _ | _ | i
    · exact hr 0 av v h1 h2
    · cases h1; exact noCatK_rep (hr 1 _ v rfl h2)
    · exact hr (i + 2) av v h1 h2
  · rcases List.mem_cons.1 hm with rfl | hm
    · exact hin _ (List.mem_cons_self ..)
    rcases List.mem_cons.1 hm with rfl | hm
    · exact catK_inA
    · exact hin av (List.mem_cons_of_mem _ (List.mem_cons_of_mem _ hm))
end Go.Abs.C

set_option linter.unusedSimpArgs false
set_option linter.unusedVariables false
namespace Go.Abs.C
open Go Go.Abs Go.Proofs Go.RowKit
structure Keep0 (p : Prop) : Prop where
  mk ::
  out : p
section
variable {P : Program} {ops : Array Oper} {o : Oper} {a : Act} {Q : Exit → Act → World → Prop} {Kc : Act → World → Prop} {W : World}
theorem app_step (hw : Region.wanted o (yielded ops a.tmps) = true) (s x : Operand) (t : TypeId) (ho : o.op = .call { callee := .builtin .append, args := #[s, x], argTypes := #[t, t] })
    {vs vx r : Value} {W1 : World} (hs : a.eval s = vs) (hx : a.eval x = vx) (hr : ∀ ty, (Builtin.append_ #[t, t] ty #[vs, vx]).run P W = .ok r W1) (h : Kc (a.put o.dst r) W1) :
    if Region.wanted o (yielded ops a.tmps) = true then Oper.wp P o a W Kc Q else Kc (a.put o.dst undef) W := by
  rw [if_pos hw]
  unfold Oper.wp execOp
  simp only [ho, resolve, invoke, builtin, Sem.run_bind, Sem.run_pure, Result.andThen_ok, List.map_toArray, List.map_cons, List.map_nil, hs, hx, hr]
  exact h
end
/-- The cells behind element i of a row, moved down by one element. -/
def newsOf (cur : Array Value) (n i : Nat) : List Value := (cur.toList.drop ((i + 1) * 4)).take ((n - (i + 1)) * 4)
theorem newsOf_len {cur : Array Value} {n i : Nat} (h : n * 4 ≤ cur.size) (hi : i < n) : (newsOf cur n i).length = (n - (i + 1)) * 4 := by
  unfold newsOf
  rw [List.length_take, List.length_drop, Array.length_toList]
  omega
theorem newsOf_get {cur : Array Value} {n i q : Nat} (h : n * 4 ≤ cur.size) (hq : q < (n - (i + 1)) * 4) : (newsOf cur n i)[q]? = cur[(i + 1) * 4 + q]? := by
  unfold newsOf
  rw [List.getElem?_take, if_pos hq, List.getElem?_drop, Array.getElem?_toList]
theorem app_run (P : Program) (t e : TypeId) (inf : TypeInfo) (ht : P.underlying t = some (.slice e)) (hi : P.info? e = some inf) (hsz : inf.size = 4) (g n c c2 i : Nat) (bt : TypeId) (fr : Nat × Nat) (cur : Array Value) (W : World)
    (hh : W.heap[g]? = some (.cells cur bt fr)) (hfz : ∀ o, o < cur.size → (fr.1 ≤ o && o < fr.2) = false) (hs : n * 4 ≤ cur.size) (hone : ∀ v ∈ cur, v.oneCell' = true) (hin : i < n) (hnc : n ≤ c) (ty : TypeId) :
    (Builtin.append_ #[t, t] ty #[.slice (some ⟨g, 0, none⟩) i c, .slice (if c = i + 1 then some ⟨g, 0, none⟩ else some ⟨g, (i + 1) * 4, none⟩) (n - (i + 1)) c2]).run P W = .ok (.slice (some ⟨g, 0, none⟩) (n - 1) c) (W.setCells g (i * 4) (newsOf cur n i)) := by
  have hl := newsOf_len hs hin
  obtain ⟨ad, ead, hcell⟩ : ∃ ad, (if c = i + 1 then some ⟨g, 0, none⟩ else some ⟨g, (i + 1) * 4, none⟩ : Option Addr) = some ad ∧ ∀ j u, (newsOf cur n i)[j]? = some u → W.cell? (ad.add j) = some u := by
    by_cases hck : c = i + 1
    · rw [if_pos hck]
      refine ⟨_, rfl, fun j u hu => ?_⟩
      have h0 : newsOf cur n i = [] := List.eq_nil_of_length_eq_zero (by rw [hl]; omega)
      rw [h0] at hu; simp at hu
    · rw [if_neg hck]
      refine ⟨_, rfl, fun j u hu => ?_⟩
      have hj : j < (newsOf cur n i).length := (List.getElem?_eq_some_iff.1 hu).1
      rw [newsOf_get hs (by omega)] at hu
      rw [Addr.add_lit, World.cell_of hh]
      exact hu
  rw [ead]
  have hrun := run_append_room_cells (P := P) W t ty e inf ht hi g 0 i c ad (n - (i + 1)) c2 (newsOf cur n i) (by rw [hl, hsz]) hcell
    (fun u hu => by
      obtain ⟨q, hq⟩ := List.mem_iff_getElem?.1 hu
      have hj : q < (newsOf cur n i).length := (List.getElem?_eq_some_iff.1 hq).1
      rw [newsOf_get hs (by omega)] at hq
      exact hone u (Array.mem_of_getElem? hq)) (by omega)
    (fun j hj => by rw [hsz, World.cell_of hh, Array.getElem?_eq_getElem (by omega)]; rfl) (fun j hj => by rw [hsz, World.frozen_of hh]; exact hfz _ (by omega))
  rw [hsz, Nat.zero_add, show i + (n - (i + 1)) = n - 1 by omega] at hrun
  exact hrun
theorem one4 : ∀ v ∈ ([.int .i64 0, .string ⟨#[]⟩, .int .i64 0, .string ⟨#[]⟩] : List Value), v.oneCell' = true := by intro v hv; simp at hv; rcases hv with rfl | rfl | rfl | rfl <;> rfl
set_option maxHeartbeats 4000000 in
set_option maxRecDepth 1000000 in
theorem del_raw (g n c i : Nat) (bt : TypeId) (fr : Nat × Nat) (cur : Array Value) (w : World)
    (hh : w.heap[g]? = some (.cells cur bt fr)) (hfz : ∀ o, o < cur.size → (fr.1 ≤ o && o < fr.2) = false) (hs : n * 4 ≤ cur.size) (hone : ∀ v ∈ cur, v.oneCell' = true) (hi : i < n) (hnc : n ≤ c) (hmax : n ≤ 9223372036854775000) :
    Calls Tryz.prog 64 #[.slice (some ⟨g, 0, none⟩) n c, .int .i64 i, .int .i64 ((i + 1 : Nat) : Int)] w fun e w' => e = .returned (.slice (some ⟨g, 0, none⟩) (n - 1) c) ∧
      ∃ (w0 : World) (zs : List Value), w0.heap = w.heap ∧ w0.os = w.os ∧ w0.tape = w.tape ∧ w0.output = w.output ∧ zs.length = 4 ∧ (∀ v ∈ zs, v.oneCell' = true) ∧ w' = (w0.setCells g (i * 4) (newsOf cur n i)).setCells g ((n - 1) * 4) zs := by
  have hu27 := Tryz.underlying24
  have mixed : Tryz.prog.follows .mixedOrders = true := by kernel_rfl
  have hi36 : (Tryz.prog.info? 49).map (·.size) = some 4 := by kernel_rfl
  obtain ⟨inf, hinf, hsz⟩ := Option.map_eq_some_iff.1 hi36
  have happ : ∀ (W : World), W.heap = w.heap → ∀ (j c2 : Nat), j = i + 1 → ∀ ty, (Builtin.append_ #[24, 24] ty #[.slice (some ⟨g, 0, none⟩) i c, .slice (if c = j then some ⟨g, 0, none⟩ else some ⟨g, j * 4, none⟩) (n - j) c2]).run Tryz.prog W = .ok (.slice (some ⟨g, 0, none⟩) (n - 1) c) (W.setCells g (i * 4) (newsOf cur n i)) := by
    rintro W hW j c2 rfl ty
    exact app_run Tryz.prog 24 49 inf hu27 hinf hsz g n c c2 i bt fr cur W (by rw [hW]; exact hh) hfz hs hone hi hnc ty
  have hcl : ∀ (W : World), W.heap = w.heap → ∀ ty c3, (Builtin.clear_ #[24] ty #[.slice (some ⟨g, (n - 1) * 4, none⟩) (n - (n - 1)) c3]).run Tryz.prog (W.setCells g (i * 4) (newsOf cur n i)) = .ok (.tuple #[]) ((W.setCells g (i * 4) (newsOf cur n i)).setCells g ((n - 1) * 4) [.int .i64 0, .string ⟨#[]⟩, .int .i64 0, .string ⟨#[]⟩]) := by
    intro W hW ty c3
    have e1 : n - (n - 1) = 1 := by omega
    have hblk := setCells_heap g bt fr (newsOf cur n i) (i * 4) cur W (by rw [hW]; exact hh)
    have hsp : (spl cur (i * 4) (newsOf cur n i)).size = cur.size := spl_size ..
    have hst := run_storeCells_cells (P := Tryz.prog) g ((n - 1) * 4) [.int .i64 0, .string ⟨#[]⟩, .int .i64 0, .string ⟨#[]⟩] 0 (W.setCells g (i * 4) (newsOf cur n i)) (by
      intro j hj
      have hj' : j < 4 := by simpa using hj
      rw [World.cell_of hblk, Array.getElem?_eq_getElem (by omega)]
      rfl) (by intro j hj; have hj' : j < 4 := by simpa using hj
               rw [World.frozen_of hblk]; exact hfz _ (by omega)) (by intro v hv; simp at hv; rcases hv with rfl | rfl | rfl | rfl <;> rfl)
    rw [Nat.add_zero] at hst
    rw [e1]
    have hz : ∀ w, (zeroValue 49).run Tryz.prog w = .ok (.agg #[.int .i64 0, .string ⟨#[]⟩, .int .i64 0, .string ⟨#[]⟩]) w := fun w => by kernel_rfl
    have hzc : (Builtin.zeroCells (Value.agg #[.int .i64 0, .string ⟨#[]⟩, .int .i64 0, .string ⟨#[]⟩]).cells 1).toList = [.int .i64 0, .string ⟨#[]⟩, .int .i64 0, .string ⟨#[]⟩] := by
      simp only [Builtin.zeroCells, Value.cells, Array.toList_map, Array.toList_range]
      rfl
    simp [Builtin.clear_, run_underlying hu27, hz, hzc, hst]
  obtain ⟨j, hj⟩ : ∃ j : Nat, j = i + 1 := ⟨_, rfl⟩
  have hne : ¬ i = j := by omega
  have hij : i ≤ j := by omega
  have hjn : j ≤ n := by omega
  have hic : i ≤ c := by omega
  have hjc : j ≤ c := by omega
  have HJ := Keep0.mk hj
  have HA := Keep0.mk happ
  have HC := Keep0.mk hcl
  rw [← hj]
  have HN := Keep0.mk hnc
  clear hj hs hone hfz hh hi happ hcl
  go_enter Tryz.func64, Tryz.ntmps64
  go_wp2_with fail
  go_region_law_o (refine app_step (vs := .slice (some ⟨g, 0, none⟩) i c) (vx := .slice (if c = j then some ⟨g, 0, none⟩ else some ⟨g, j * 4, none⟩) (n - j) (c - j)) (by rfl) (.tmp 22) (.tmp 25) 24 rfl (by simp [Act.eval, Act.put]) (by simp [Act.eval, Act.put]) (HA.out (World.drew w) rfl j (c - j) HJ.out) ?_)
  have hn1 : n - 1 ≤ n := by omega
  have hn2 : n - 1 ≤ c := by omega
  have HW : ∀ ty c3, (Builtin.clear_ #[24] ty #[.slice (some ⟨g, (n - 1) * 4, none⟩) (n - (n - 1)) c3]).run Tryz.prog (w.drew.setCells g (i * 4) (newsOf cur n i)) = .ok (.tuple #[]) ((w.drew.setCells g (i * 4) (newsOf cur n i)).setCells g ((n - 1) * 4) [.int .i64 0, .string ⟨#[]⟩, .int .i64 0, .string ⟨#[]⟩]) := HC.out w.drew rfl
  clear HC HA hi36 hinf hsz
  go_wp2
  all_goals
    go_ret
    exact ⟨rfl, w.drew, rfl, rfl, rfl, rfl, [.int .i64 0, .string ⟨#[]⟩, .int .i64 0, .string ⟨#[]⟩], rfl, one4, rfl⟩
set_option maxHeartbeats 16000000 in
set_option maxRecDepth 100000 in
theorem good_del (els : List (List PV)) (n i : Nat) (hn : n = els.length) (hi : i < n) (hb : n ≤ 1000000) :
    Good Tryz.prog 64 [.one (.hs 0 0 n), vint i, vint ((i + 1 : Nat) : Int)] [.arr 4 els] (.one (.hs 0 0 (n - 1))) [.arr 4 (els.eraseIdx i)] := by
  intro w vs σ S hl hr hin hlent hap hS hG
  rcases vs with ⟨l⟩
  rcases l with _ | ⟨v0, _ | ⟨v1, _ | ⟨v2, _ | ⟨v3, l⟩⟩⟩⟩
  · cases hl
  · cases hl
  · cases hl
  · have h0 := hr 0 _ v0 rfl rfl
    have h1 := lit_inv (hr 1 _ v1 rfl rfl) rfl
    have h2 := lit_inv (hr 2 _ v2 rfl rfl) rfl
    subst h1 h2
    obtain ⟨⟨cur, ty, fr, g1, g0, g2, g3, g6, g4, g5⟩, _, hnS⟩ := hlent 0 _ rfl
    cases h0 with | one h0 =>
    cases h0 with
    | hs0 => omega
    | hs _ _ _ cap hc hnc =>
    have hcap : n * 4 ≤ cur.size := by rw [g2, g6]; exact Nat.mul_le_mul_right _ (by omega)
    rw [Nat.zero_mul]
    refine Calls.mono (del_raw (σ 0).k n cap i ty fr cur w g1 g0 hcap g3 hi hnc (by omega)) ?_
    rintro e w' ⟨rfl, w0, zs, e1, e2, e3, e4, hz4, hz1, rfl⟩
    have hln := newsOf_len hcap hi
    have b1 := setCells_heap (σ 0).k ty fr (newsOf cur n i) (i * 4) cur w0 (by rw [e1]; exact g1)
    have s1 : (spl cur (i * 4) (newsOf cur n i)).size = cur.size := spl_size ..
    have b2 := setCells_heap (σ 0).k ty fr zs ((n - 1) * 4) _ _ b1
    have hother : ∀ k, k ≠ (σ 0).k → ((w0.setCells (σ 0).k (i * 4) (newsOf cur n i)).setCells (σ 0).k ((n - 1) * 4) zs).heap[k]? = w.heap[k]? := fun k hk => by
      rw [setCells_other _ _ _ _ _ hk, setCells_other _ _ _ _ _ hk, e1]
    have hsize : ((w0.setCells (σ 0).k (i * 4) (newsOf cur n i)).setCells (σ 0).k ((n - 1) * 4) zs).heap.size = w.heap.size := by
      rw [setCells_size, setCells_size, e1]
    have o1 := setCells_os (σ 0).k (newsOf cur n i) (i * 4) w0
    have o2 := setCells_os (σ 0).k zs ((n - 1) * 4) (w0.setCells (σ 0).k (i * 4) (newsOf cur n i))
    have hfit1 : i * 4 + (newsOf cur n i).length ≤ cur.size := by omega
    have hfit2 : (n - 1) * 4 + zs.length ≤ (spl cur (i * 4) (newsOf cur n i)).size := by omega
    refine ⟨_, rfl, σ, S, .one ?_, .one (Nat.zero_lt_one), Nat.le_refl _, ?_, fun b b' q1 q2 q3 => by simp at q1 q2; omega, fun b q => rfl, fun b q1 q2 => absurd q2 (by simp only [List.length_cons, List.length_nil] at q1 ⊢; omega), fun k hk => hsize ▸ hS k hk, fun k hk _ => hk, (o2.1.trans o1.1).trans e2, (o2.2.1.trans o1.2.1).trans e3, (o2.2.2.trans o1.2.2).trans e4, Nat.le_of_eq hsize.symm, fun k hk hne => hother k fun q => hne 0 Nat.zero_lt_one q.symm⟩
    · have := RepC.hs (w := ((w0.setCells (σ 0).k (i * 4) (newsOf cur n i)).setCells (σ 0).k ((n - 1) * 4) zs)) (S := S) (σ := σ) 0 0 (n - 1) cap hc (by omega)
      rwa [Nat.zero_mul] at this
    · intro b blk hb
      have hb0 : b = 0 := by
        rcases b with _ | b
        · rfl
        · simp at hb
      subst hb0
      cases hb
      refine ⟨⟨_, ty, fr, b2, fun o ho => ?_, ?_, fun v hv => ?_, g6, ?_, fun m el hm => ?_⟩, trivial, hnS⟩
      · rw [spl_size, s1] at ho; exact g0 o ho
      · rw [spl_size, s1]; exact g2
      · obtain ⟨m, hm⟩ := Array.mem_iff_getElem?.1 hv
        rw [spl_get _ _ _ _ hfit2] at hm
        split at hm
        · exact hz1 v (List.mem_of_getElem? hm)
        · rw [spl_get _ _ _ _ hfit1] at hm
          split at hm
          · rename_i q
            rw [newsOf_get hcap (by omega)] at hm
            exact g3 v (Array.mem_of_getElem? hm)
          · exact g3 v (Array.mem_of_getElem? hm)
      · rw [List.length_eraseIdx_of_lt (by omega)]; omega
      · have hml : m < n - 1 := by
          have := (List.getElem?_eq_some_iff.1 hm).1
          rw [List.length_eraseIdx_of_lt (by omega)] at this
          omega
        rw [List.getElem?_eraseIdx] at hm
        by_cases hmi : m < i
        · rw [if_pos hmi] at hm
          refine ⟨(g5 m el hm).1, fun j x hx => ?_⟩
          obtain ⟨v, q1, q2⟩ := (g5 m el hm).2 j x hx
          have hj : j < 4 := by have := (List.getElem?_eq_some_iff.1 hx).1; rw [(g5 m el hm).1, g6] at this; exact this
          rw [g6] at q1 ⊢
          refine ⟨v, ?_, q2.mono (fun k hk => hother k fun q => hnS (q ▸ hk)) (fun _ q => q)⟩
          rw [spl_get _ _ _ _ hfit2, if_neg (by omega), spl_get _ _ _ _ hfit1, if_neg (by omega)]
          exact q1
        · rw [if_neg hmi] at hm
          refine ⟨(g5 (m + 1) el hm).1, fun j x hx => ?_⟩
          obtain ⟨v, q1, q2⟩ := (g5 (m + 1) el hm).2 j x hx
          have hj : j < 4 := by have := (List.getElem?_eq_some_iff.1 hx).1; rw [(g5 (m + 1) el hm).1, g6] at this; exact this
          rw [g6] at q1 ⊢
          refine ⟨v, ?_, q2.mono (fun k hk => hother k fun q => hnS (q ▸ hk)) (fun _ q => q)⟩
          rw [spl_get _ _ _ _ hfit2, if_neg (by omega), spl_get _ _ _ _ hfit1, if_pos (by omega), newsOf_get hcap (by omega), show (i + 1) * 4 + (m * 4 + j - i * 4) = (m + 1) * 4 + j by omega]
          exact q1
  · cases hl
end Go.Abs.C

set_option linter.unusedSimpArgs false
set_option linter.unusedVariables false
namespace Go.Abs.C
open Go Go.Abs Go.Proofs Go.RowKit
attribute [local irreducible] IntKind.wrap
theorem take_all {l : Is} {n : Nat} (h : n = l.length) : List.take n (List.drop 0 (l.map encItem)) = l.map encItem := by
  subst h
  rw [List.drop_zero, List.take_of_length_le (by rw [List.length_map]; exact Nat.le_refl _)]
theorem len_all {l : Is} {n : Nat} (h : n = l.length) : 0 + n ≤ (l.map encItem).length := by rw [List.length_map]; omega
def dM : FuncId → Bool := fun f => [64].contains f
theorem delAt_erase (l : Is) (k : Nat) : (l.map encItem).eraseIdx k = (delAt l k).map encItem := by
  unfold delAt
  rw [List.eraseIdx_eq_take_drop_succ, List.map_append, List.map_take, List.map_drop]
set_option maxHeartbeats 16000000 in
set_option maxRecDepth 100000 in
theorem takeI_ok (l : Is) (last h : Int) (n : ByteArray) (hl8 : l.length ≤ 8) : Good Tryz.prog 40 [cat l last, vint h, vstr n] [] (putR (takeC l last h n)) (putB (takeC l last h n)) := by
  refine good_e dM Tryz.func40 rfl rfl ?_
  conv => whnf
  refine .mk _ _ false Tryz.call62 (clone_ok l last (by omega)) (Nat.le_of_ble_eq_true rfl) (.inl rfl) ?_
  conv => whnf
  refine .mk _ _ false Tryz.call63 (find_ok l last h n (by omega)) (Nat.le_of_ble_eq_true rfl) (.inl rfl) ?_
  conv => whnf
  generalize hT : takeC l last h n = T
  unfold takeC at hT
  split
  · rename_i q
    rw [q] at hT
    try simp only at hT
    subst hT
    conv => whnf
    refine ⟨⟨⟨by decide +kernel, Nat.le_of_ble_eq_true rfl⟩, trivial⟩, ?_⟩
    conv => whnf
    exact ⟨rfl, rfl⟩
  · rename_i q
    rw [q] at hT
    try simp only at hT
    subst hT
    have q' := of_decide_eq_false q
    have hfp := findI_pos (p := fun x => same x h n) (l := l) (by omega)
    have hge : 0 ≤ findI (fun x => same x h n) l := by omega
    generalize findI (fun x => same x h n) l = K at hfp hge ⊢
    obtain ⟨k, rfl⟩ := Int.eq_ofNat_of_zero_le hge
    rw [Int.toNat_natCast] at hfp ⊢
    have hw : IntKind.i64.wrap ((k : Int) + 1) = ((k + 1 : Nat) : Int) := by rw [wi _ (by omega) (by omega)]; omega
    conv => whnf
    rw [hw]
    have hg := good_del (l.map encItem) l.length k (List.length_map ..).symm hfp.1 (by omega)
    rw [delAt_erase] at hg
    refine .mk _ _ false Tryz.call64 hg (Nat.le_of_ble_eq_true rfl) (.inl rfl) ?_
    conv => whnf
    refine ⟨⟨rfl, rfl, rfl⟩, (by rw [List.length_map, delAt_len hfp.1]; omega), ?_⟩
    rw [show List.take (l.length - 1) (List.drop 0 ((delAt l k).map encItem)) = (delAt l k).map encItem from take_all (by rw [delAt_len hfp.1])]
    conv => whnf
    refine ⟨(fun q => by cases q), appB (show 0 + ((delAt l k).map encItem).length ≤ 1100000 by rw [List.length_map, delAt_len hfp.1]; omega), enc_len _, ?_⟩
    conv => whnf
    refine ⟨⟨⟨by decide +kernel, Nat.le_of_ble_eq_true rfl⟩, trivial⟩, ?_⟩
    conv => whnf
    exact ⟨(show AV.tup [.agg [.p (.lit (.int .i64 last)), .hs 0 0 (0 + ((delAt l k).map encItem).length)], vint 0] = putR (delAt l k, last, 0) from by rw [List.length_map, Nat.zero_add]), rfl⟩
set_option maxHeartbeats 16000000 in
set_option maxRecDepth 100000 in
theorem specTake_bad (l : Is) (last h : Int) (n : ByteArray) (hl : l.length < 1100000) (hs : ∀ x ∈ l, x.b.size ≤ 9223372036854775807) (hp : catOk l last = false) : Good Tryz.prog 35 [cat l last, vint h, vstr n] [] badC [] := by
  refine good_e noM Tryz.func35 rfl rfl ?_
  conv => whnf
  refine .mk _ _ false Tryz.call53 (specOk_ok l last hl hs) (Nat.le_of_ble_eq_true rfl) (.inl rfl) ?_
  rw [hp]
  conv => whnf
  refine ⟨⟨⟨by decide +kernel, Nat.le_of_ble_eq_true rfl⟩, trivial⟩, ?_⟩
  conv => whnf
  exact ⟨rfl, rfl⟩
end Go.Abs.C
