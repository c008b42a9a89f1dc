-- Written by a program of this session over the print's form. Lean checks it.
import Derived.Test.YtbpmfdpbgcpjeaaPFnExactCatTakex0
import Derived.Test.YtbpmfdpbgcpjeaaPFnExactCatTakex15
namespace Go.Proofs.Ytbpmfdpbgcpjeaa.PFnExactCatTake
open Go.RowKit Go.Proofs.YtbpmfdpbgcpjeaaW.PrintWords Go.Proofs.YtbpmfdpbgcpjeaaW.PrintLast Go.Proofs.YtbpmfdpbgcpjeaaW.PrintMore
attribute [local go_sem] max2_int min2_int max_two min_two max_three min_three max_four min_four   -- for this text's walks alone
set_option linter.unusedVariables false
set_option linter.unusedSimpArgs false

/-! ### impl_Cat_take: function 55 -/
theorem R_spare {e base : Nat} {W : World} {ok : Nat → Prop} {g n c : Nat} {xs : List S36} (HO : Kd.R k36 e W base ok (.slice (some ⟨g, 0, none⟩) n c) xs) (o : Nat) (v : Value) (ho : n * 4 ≤ o) : Kd.R k36 e (W.setCell ⟨g, o, none⟩ v) base ok (.slice (some ⟨g, 0, none⟩) n c) xs := by
 obtain ⟨hok, inner, hown, hr⟩ := HO
 refine ⟨hok,inner,⟨hown.1,?_⟩,hr.imp_ (fun x cs hp => k36.M_move (fun k hk => Below.heap_setCell W _ v k (by intro e_;exact hk.2 (by rw [e_];rfl))) hp)⟩
 rcases hown.2 with ⟨hv,_⟩|⟨g',cap',cur,hv,hb,hh,h1,h2,h3,h4⟩
 ·cases hv
 ·injection hv with ha hn hc
  injection ha with ha
  injection ha with hg
  subst hg; subst hc
  refine .inr ⟨g,c,cur.setIfInBounds o v,by rw [hn],hb,blk_put hh o v rfl,h1,h2,by simpa using h3,?_⟩
  rw [Array.toList_setIfInBounds,List.take_set_of_le (by rw [← hn];exact ho)]
  exact h4
theorem R_spares {e base : Nat} {ok : Nat → Prop} {g n c : Nat} {xs : List S36} : ∀ (vs : List Value) (o : Nat) (W : World), Kd.R k36 e W base ok (.slice (some ⟨g, 0, none⟩) n c) xs → n * 4 ≤ o → Kd.R k36 e (W.setCells g o vs) base ok (.slice (some ⟨g, 0, none⟩) n c) xs
 | [], _, _, h, _ => h
 | v :: r, o, W, h, ho => R_spares r (o + 1) (W.setCell ⟨g, o, none⟩ v) (R_spare h o v ho) (by omega)
theorem grown_spares (g : Nat) : ∀ (vs : List Value) (o : Nat) (w W : World), w.grownBy W (some g) → w.grownBy (W.setCells g o vs) (some g)
 | [], _, _, _, h => h
 | v :: r, o, w, W, h => grown_spares g r (o + 1) w (W.setCell ⟨g, o, none⟩ v) ⟨h.os, h.tape, h.output, by simpa [World.setCell] using h.size, fun k hk hne => (Below.heap_setCell W _ v k (by intro e_; exact hne (by rw [e_]))).trans (h.block k hk hne)⟩
set_option maxHeartbeats 4000000 in
set_option maxRecDepth 1000000 in
theorem del75 (g n c i : Nat) (xs : List S36) (base : Nat) (ok : Nat → Prop) (w : World) (HO : Kd.R k36 36 w base ok (.slice (some ⟨g, 0, none⟩) n c) xs) (hi : i < n) :
  Calls Try.prog 75 #[.slice (some ⟨g, 0, none⟩) n c, .int .i64 i, .int .i64 ((i + 1 : Nat) : Int)] w fun e w' => e = .returned (.slice (some ⟨g, 0, none⟩) (n - 1) c) ∧ Kd.R k36 36 w' base ok (.slice (some ⟨g, 0, none⟩) (n - 1) c) (xs.eraseIdx i) ∧ w.grownBy w' (some g) := by
 obtain ⟨hxn, hnc, hrow⟩ := Kd.R_reads' HO
 have hu27 := Try.underlying27
 have mixed : Try.prog.follows .mixedOrders = true:=by kernel_rfl
 have hmax : c ≤ 9223372036854775807 := by
  obtain ⟨_, inner, hown, _⟩ := HO
  rcases hown.2 with ⟨hv,_⟩|⟨g',cap',cur,hv,hb,hh,h1,h2,h3,h4⟩
  ·cases hv
  ·injection hv with ha hn hc
   subst hc
   have : maxLen ≤ 9223372036854775807 := by decide
   omega
 obtain ⟨j, hj⟩ : ∃ j : Nat, j = i + 1 := ⟨_, rfl⟩
 have hne : ¬ i = j := by omega
 have hij : i ≤ j := by omega
 have hjn : j ≤ n := by omega
 have hic : i ≤ c := by omega
 have hjc : j ≤ c := by omega
 have HJ := Aside0.mk hj
 have HR := Aside0.mk HO
 have HI := Aside0.mk hi
 have HM := Aside0.mk hmax
 have hbase : Aside0 (base ≤ w.heap.size) := ⟨by
  have h1 := Kd.R_base HO g (by simp [Value.ownBlock])
  obtain ⟨_, inner, hown, _⟩ := HO
  have h2 := own_lt hown g (by simp [Value.ownBlock])
  omega⟩
 rw [← hj]
 clear hj HO hrow hxn hmax hi
 go_enter Try.func75, Try.ntmps75
 go_wp2_with fail
 go_region_law_o (refine Kd.R_delete_step k36 base (by rfl) (.tmp 22) (.tmp 25) 27 36 rfl hu27 (by kernel_rfl) (g:=g) (n:=n) (c:=c) (k:=i) (m:=n - j) (c2:=c - j) (A:=if c = j then some ⟨g,0,none⟩ else some ⟨g,j * 4,none⟩) (xs:=xs) (ok:=ok) (w0:=w) (by simp [Act.eval,Act.put]) (by simp [Act.eval,Act.put]) (by rw [HJ.out];split <;> simp [Addr.add,show k36.sz = 4 from rfl]) (by rw [HJ.out]) (Kd.R_drew HR.out) HI.out (below_drew (Below.refl _ _)) hbase.out ?_;intro w1 h1 hb1 hg1)
 have hG : ∃ cur,w1.heap[g]? = some (.cells cur 36 (0,0)) ∧ n * 4 ≤ cur.size:=by
  obtain ⟨_, inner, hown, _⟩ := h1
  rcases hown.2 with ⟨hv,_⟩|⟨g',cap',cur,hv,hb,hh,q1,q2,q3,q4⟩
  ·cases hv
  ·injection hv with ha hn hc
   injection ha with ha
   injection ha with hg
   subst hg; subst hc
   exact ⟨cur,hh,by rw [q3,show k36.sz = 4 from rfl];exact Nat.mul_le_mul_right _ hnc⟩
 have hcl : ∀ ty,(Builtin.clear_ #[27] ty #[.slice (some ⟨g,(n - 1) * 4,none⟩) (n - (n - 1)) (c - (n - 1))]).run Try.prog w1 = .ok (.tuple #[]) (w1.setCells g ((n - 1) * 4) [.int .i64 0,.string ⟨#[]⟩,.int .i64 0,.string ⟨#[]⟩]):=by
  intro ty
  obtain ⟨cur, hh, hs⟩ := hG
  have hi := HI.out
  have e1 : n - (n - 1) = 1 := by omega
  have hst:=run_storeCells_cells (P:=Try.prog) g ((n - 1) * 4) [.int .i64 0,.string ⟨#[]⟩,.int .i64 0,.string ⟨#[]⟩] 0 w1 (by
   intro j hj
   have hj' : j < 4 := by simpa using hj
   rw [blk_cell hh, Array.getElem?_eq_getElem (by omega)]
   rfl) (by intro j hj;exact blk_frozen hh _) (by intro v hv;simp at hv;rcases hv with rfl|rfl|rfl|rfl <;> rfl)
  rw [Nat.add_zero] at hst
  rw [e1]
  have hz : ∀ w,(zeroValue 36).run Try.prog w = .ok (.agg #[.int .i64 0,.string ⟨#[]⟩,.int .i64 0,.string ⟨#[]⟩]) w:=fun w => by kernel_rfl
  have hzc : (Builtin.zeroCells (Value.agg #[.int .i64 0,.string ⟨#[]⟩,.int .i64 0,.string ⟨#[]⟩]).cells 1).toList = [.int .i64 0,.string ⟨#[]⟩,.int .i64 0,.string ⟨#[]⟩]:=by
   simp only [Builtin.zeroCells,Value.cells,Array.toList_map,Array.toList_range]
   rfl
  simp [Builtin.clear_, run_underlying hu27, hz, hzc, hst]
 have H1 := Aside0.mk h1
 have HG1 := Aside0.mk hg1
 clear h1 hg1 hb1 hG
 have hn1 : n - 1 ≤ n := by omega
 have hn2 : n - 1 ≤ c := by omega
 go_wp2
 all_goals
  go_ret
  refine ⟨rfl, ?_, ?_⟩
  ·first|exact R_spares _ _ _ H1.out (Nat.le_refl _)|(rw [← (show c = j from by assumption)];exact R_spares _ _ _ H1.out (Nat.le_refl _))
  ·have hg := HG1.out
   exact grown_spares _ _ _ _ _ ⟨hg.os,hg.tape,hg.output,hg.size,hg.block⟩
def StopG (p : Prop) : Prop := p
theorem stopG {p : Prop} (h : StopG p) : p := h
theorem below_alloc' {B : Nat} {w W : World} (h : Below B w W) (o : Obj) (hB : B ≤ W.heap.size := by omega) : Below B w (W.alloc o) := h.alloc hB o
theorem tk_new (w : World) (o : Obj) : (w.alloc o).heap[w.heap.size]? = some o := by
 show (w.heap.push o)[w.heap.size]? = some o
 exact Array.getElem?_push_size
theorem tk_size (w : World) (o : Obj) : (w.alloc o).heap.size = w.heap.size + 1 := Array.size_push ..
theorem tk_new2 (w : World) (o o2 : Obj) : ((w.alloc o).alloc o2).heap[w.heap.size + 1]? = some o2 := by
 have h := tk_new (w.alloc o) o2
 rwa [tk_size] at h
/-- What Cat.take gives. -/
def impl_Cat_take.f (a0_0 : Int) (l0_1 : List (S36)) (a1 : Int) (a2 : ByteArray) : Option (Int × (List (S36)) × Int) :=
 if l0_1.length < 1048577 then (if idxFrom (fun x => x.f0 == a1 && x.f1.toList == a2.toList) l0_1 0 < 0 then some (a0_0,l0_1,3) else some (a0_0,l0_1.eraseIdx (idxFrom (fun x => x.f0 == a1 && x.f1.toList == a2.toList) l0_1 0).toNat,0)) else none
theorem idx_lt (p : S36 → Bool) : ∀ (l : List S36) (i : Int), 0 ≤ i → idxFrom p l i < 0 ∨ (i ≤ idxFrom p l i ∧ idxFrom p l i < i + l.length)
 | [], i, _ => .inl (by unfold idxFrom; omega)
 | x :: t, i, hi => by
  unfold idxFrom
  by_cases c : p x = true
  ·rw [if_pos c]; right; simp; omega
  ·rw [if_neg c]
   rcases idx_lt p t (i + 1) (by omega) with h | h
   ·exact .inl h
   ·right; simp; omega
set_option maxHeartbeats 8000000 in
set_option maxRecDepth 1000000 in
theorem impl_Cat_take.calls (a0_0 : Int) (A0_1 : Option Addr) (c0_1 : Nat) (l0_1 : List (S36)) (a1 : Int) (a2 : ByteArray) (r1 : Int) (r2 : List (S36)) (r3 : Int) (w : World) (hr0_1 : Kd.C k36 w A0_1 l0_1.length l0_1) (hc0_1 : l0_1.length ≤ c0_1) (h : impl_Cat_take.f a0_0 l0_1 a1 a2 = some (r1, r2, r3)) :
  Calls Try.prog 55 #[.agg #[.int .i64 a0_0, .slice A0_1 l0_1.length c0_1], .int .i64 a1, .string a2] w fun e w' => ∃ v1_ : Value, e = .returned (.tuple #[.agg #[.int .i64 r1, v1_], .int .i64 r3]) ∧ Kd.R k36 36 w' w.heap.size (fun _ => True) v1_ r2 ∧ Below w.heap.size w w' := by
 have hu29 := Try.underlying29
 have hu27 := Try.underlying27
 have HR := Aside0.mk hr0_1
 have HC := Aside0.mk hc0_1
 clear hr0_1 hc0_1
 unfold impl_Cat_take.f at h
 by_cases hl : l0_1.length < 1048577
 ·rw [if_pos hl] at h
  have hclone : impl_cloneCat.f a0_0 l0_1 = some (a0_0,l0_1):=by
   unfold impl_cloneCat.f
   have g : ([] : List S36).length + l0_1.length < 2932031007402:=by simp;omega
   simp only [Option.bind_some, if_pos g, List.nil_append]
  have hfind : ∀ (m : Int),impl_Cat_find.f m l0_1 a1 a2 = some (idxFrom (fun x => x.f0 == a1 && x.f1.toList == a2.toList) l0_1 0):=fun _ => rfl
  have hix:=idx_lt (fun x => x.f0 == a1 && x.f1.toList == a2.toList) l0_1 0 (by omega)
  generalize idxFrom (fun x => x.f0 == a1 && x.f1.toList == a2.toList) l0_1 0 = r at h hfind hix
  have HCL := Aside0.mk hclone
  have HF := Aside0.mk (hfind a0_0)
  have HX := Aside0.mk hix
  have HL := Aside0.mk hl
  have HH := Aside0.mk h
  clear hclone hfind hix hl h
  by_cases hneg : r < 0
  ·have hh := HH.out
   rw [if_pos hneg] at hh
   simp only [Option.some.injEq, Prod.mk.injEq] at hh
   obtain ⟨rfl, rfl, rfl⟩ := hh
   clear HH
   have hneg' := eq_true hneg
   clear hneg
   go_enter Try.func55, Try.ntmps55
   go_wp2_with (go_at_call 74;refine (impl_cloneCat.calls a0_0 A0_1 c0_1 l0_1 a0_0 l0_1 _ (Kd.C_alloc (Kd.C_alloc HR.out _) _) HC.out HCL.out).mono ?_;rintro e w1 ⟨v1,rfl,HR1,hb1⟩;obtain ⟨A1,c1,ev1⟩:=Kd.R_slice HR1;subst ev1;have f0 : w1.cell? ⟨w.heap.size,0,none⟩ = some (.int .i64 a0_0):=(hb1.cell (by first|(simp;done)|(simp;omega))).trans (by simp);have f1 : w1.cell? ⟨w.heap.size,1,none⟩ = some (.slice A0_1 l0_1.length c0_1):=(hb1.cell (by first|(simp;done)|(simp;omega))).trans (by simp);have fsz : w.heap.size < w1.heap.size:=(by have:=hb1.size;rw [tk_size,tk_size] at this;omega);have fne : w.heap.size ≠ w1.heap.size:=Nat.ne_of_lt fsz;have FB:=Aside0.mk hb1;have FR:=Aside0.mk HR1;clear hb1 HR1)
   refine (impl_Cat_find.calls a0_0 A0_1 c0_1 l0_1 a1 a2 r _ (Kd.C_alloc (Kd.C_below (Kd.C_alloc (Kd.C_alloc HR.out _) _) FB.out) _) HC.out HF.out).mono ?_
   rintro e w2 ⟨rfl, hb2⟩
   have BK8 : w2.heap[w1.heap.size]? = some (.cells #[.int .i64 a0_0,.slice A1 l0_1.length c1] 29 (0,0)):=(hb2.block _ (by rw [tk_size];omega)).trans (tk_new _ _)
   have BK6 : w2.heap[w.heap.size + 1]? = some (.cells #[.int .i64 0,.slice none 0 0] 29 (0,0)):=by
    have h0 : w.heap.size + 1 + 1 ≤ w1.heap.size:=by have:=FB.out.size;rw [tk_size,tk_size] at this;exact this
    have h1:=(FB.out.block (w.heap.size + 1) (by rw [tk_size,tk_size];omega)).trans (tk_new2 _ _ _)
    exact (hb2.block _ (by rw [tk_size];omega)).trans (blk_alloc h1 _)
   have HB2 := Aside0.mk hb2
   clear hb2
   have e80 : w2.cell? ⟨w1.heap.size,0,none⟩ = some (.int .i64 a0_0):=(blk_cell BK8 0).trans rfl
   have e81 : w2.cell? ⟨w1.heap.size,1,none⟩ = some (.slice A1 l0_1.length c1):=(blk_cell BK8 1).trans rfl
   have e60 : w2.cell? ⟨w.heap.size + 1,0,none⟩ = some (.int .i64 0):=(blk_cell BK6 0).trans rfl
   have e61 : w2.cell? ⟨w.heap.size + 1,1,none⟩ = some (.slice none 0 0):=(blk_cell BK6 1).trans rfl
   have z60 := blk_frozen BK6 0
   have z61 := blk_frozen BK6 1
   have HBK6 := Aside0.mk BK6
   clear BK6 BK8
   go_wp2
   refine bodyPost_ret (results_ct rfl _ _ (w.heap.size + 1) 29 #[.int .i64 a0_0,.slice A1 l0_1.length c1] (0,0) _ rfl (blk_put (cs:=#[.int .i64 a0_0,.slice none 0 0]) (blk_put (cs:=#[.int .i64 0,.slice none 0 0]) HBK6.out 0 _ rfl) 1 _ rfl) Try.underlying29 rfl (by kernel_rfl)) rfl ?_
   refine ⟨_, rfl, ?_, ?_⟩
   ·have h1:=Kd.R_mono (Kd.R_bound (Kd.R_below (Kd.R_alloc FR.out _) HB2.out)) (ok':=fun k => k ≠ w.heap.size + 1) (fun k hk => by have:=hk.2.1;rw [tk_size,tk_size] at this;omega)
    exact Kd.R_lower (Kd.R_mono (Kd.R_far (Kd.R_far h1 (p:=⟨w.heap.size + 1,0,none⟩) (fun k hk => hk) _) (p:=⟨w.heap.size + 1,1,none⟩) (fun k hk => hk) _) (fun _ _ => trivial)) (by rw [tk_size,tk_size];omega)
   ·have hb : Below w.heap.size w w2 := by
     have b0 : Below w.heap.size w ((w.alloc (Obj.cells #[.int .i64 a0_0,.slice A0_1 l0_1.length c0_1] 29)).alloc (Obj.cells #[.int .i64 0,.slice none 0 0] 29)):=below_alloc (below_alloc (Below.refl _ _) _) _
     have b1 : Below w.heap.size ((w.alloc (Obj.cells #[.int .i64 a0_0,.slice A0_1 l0_1.length c0_1] 29)).alloc (Obj.cells #[.int .i64 0,.slice none 0 0] 29)) w1:=FB.out.mono (by rw [tk_size,tk_size];omega)
     have b2 : Below w.heap.size w1 (w1.alloc (Obj.cells #[.int .i64 a0_0,.slice A1 l0_1.length c1] 29)):=(Below.refl w.heap.size w1).alloc (Nat.le_of_lt fsz) _
     have b3 : Below w.heap.size (w1.alloc (Obj.cells #[.int .i64 a0_0,.slice A1 l0_1.length c1] 29)) w2:=HB2.out.mono (by rw [tk_size];omega)
     exact ((b0.trans b1).trans b2).trans b3
    exact below_set (below_set hb (by show w.heap.size ≤ w.heap.size + 1;omega)) (by show w.heap.size ≤ w.heap.size + 1;omega)
  ·have hh := HH.out
   rw [if_neg hneg] at hh
   simp only [Option.some.injEq, Prod.mk.injEq] at hh
   obtain ⟨rfl, rfl, rfl⟩ := hh
   have hx := HX.out
   clear HH HX
   obtain ⟨i,rfl⟩ : ∃ i : Nat,r = (i : Int):=⟨r.toNat,by omega⟩
   have hi : i < l0_1.length := by omega
   have HI := Aside0.mk hi
   have hneg' : ((i : Int) < 0) = False := eq_false (by omega)
   have hw1 : wrap64 ((i : Int) + 1) = ((i + 1 : Nat) : Int):=by have:=HL.out;unfold wrap64;omega
   rw [Int.toNat_natCast]
   clear hneg hx
   go_enter Try.func55, Try.ntmps55
   go_wp2_with (go_at_call 74;refine (impl_cloneCat.calls a0_0 A0_1 c0_1 l0_1 a0_0 l0_1 _ (Kd.C_alloc (Kd.C_alloc HR.out _) _) HC.out HCL.out).mono ?_;rintro e w1 ⟨v1,rfl,HR1,hb1⟩;obtain ⟨g,c1,ev1,hgb,hgl,_⟩:=Kd.R_form HR1 (by omega);subst ev1;have f0 : w1.cell? ⟨w.heap.size,0,none⟩ = some (.int .i64 a0_0):=(hb1.cell (by first|(simp;done)|(simp;omega))).trans (by simp);have f1 : w1.cell? ⟨w.heap.size,1,none⟩ = some (.slice A0_1 l0_1.length c0_1):=(hb1.cell (by first|(simp;done)|(simp;omega))).trans (by simp);have fsz : w.heap.size < w1.heap.size:=(by have:=hb1.size;rw [tk_size,tk_size] at this;omega);have fne : w.heap.size ≠ w1.heap.size:=Nat.ne_of_lt fsz;have FB:=Aside0.mk hb1;have FR:=Aside0.mk HR1;clear hb1 HR1;have HGB:=Aside0.mk hgb;have HGL:=Aside0.mk hgl;clear hgb hgl)
   refine (impl_Cat_find.calls a0_0 A0_1 c0_1 l0_1 a1 a2 i _ (Kd.C_alloc (Kd.C_below (Kd.C_alloc (Kd.C_alloc HR.out _) _) FB.out) _) HC.out HF.out).mono ?_
   rintro e w2 ⟨rfl, hb2⟩
   have BK8 : w2.heap[w1.heap.size]? = some (.cells #[.int .i64 a0_0,.slice (some ⟨g,0,none⟩) l0_1.length c1] 29 (0,0)):=(hb2.block _ (by rw [tk_size];omega)).trans (tk_new _ _)
   have BK6 : w2.heap[w.heap.size + 1]? = some (.cells #[.int .i64 0,.slice none 0 0] 29 (0,0)):=by
    have h0 : w.heap.size + 1 + 1 ≤ w1.heap.size:=by have:=FB.out.size;rw [tk_size,tk_size] at this;exact this
    have h1:=(FB.out.block (w.heap.size + 1) (by rw [tk_size,tk_size];omega)).trans (tk_new2 _ _ _)
    exact (hb2.block _ (by rw [tk_size];omega)).trans (blk_alloc h1 _)
   have fs2 : w1.heap.size < w2.heap.size:=by have:=hb2.size;rw [tk_size] at this;omega
   have fne2 : w1.heap.size ≠ w2.heap.size := Nat.ne_of_lt fs2
   have fw1 : w.heap.size + 1 < w1.heap.size:=by have:=FB.out.size;rw [tk_size,tk_size] at this;omega
   have fne3 : w1.heap.size ≠ w.heap.size + 1:=Nat.ne_of_gt fw1
   have fne4 : w.heap.size + 1 ≠ w1.heap.size:=Nat.ne_of_lt fw1
   have HR2 := Aside0.mk (Kd.R_below (Kd.R_alloc FR.out _) hb2)
   have b3 : Below w.heap.size w w2 := by
     have b0 : Below w.heap.size w ((w.alloc (Obj.cells #[.int .i64 a0_0,.slice A0_1 l0_1.length c0_1] 29)).alloc (Obj.cells #[.int .i64 0,.slice none 0 0] 29)):=below_alloc (below_alloc (Below.refl _ _) _) _
     have b1 : Below w.heap.size ((w.alloc (Obj.cells #[.int .i64 a0_0,.slice A0_1 l0_1.length c0_1] 29)).alloc (Obj.cells #[.int .i64 0,.slice none 0 0] 29)) w1:=FB.out.mono (by rw [tk_size,tk_size];omega)
     have b2 : Below w.heap.size w1 (w1.alloc (Obj.cells #[.int .i64 a0_0,.slice (some ⟨g,0,none⟩) l0_1.length c1] 29)):=(Below.refl w.heap.size w1).alloc (Nat.le_of_lt fsz) _
     exact ((b0.trans b1).trans b2).trans (hb2.mono (by rw [tk_size];omega))
   have HB2 := Aside0.mk b3
   have hgl1 := HGL.out
   have hgb1 := HGB.out
   rw [tk_size, tk_size] at hgb1
   clear hb2 b3 FB
   have e81 : w2.cell? ⟨w1.heap.size,1,none⟩ = some (.slice (some ⟨g,0,none⟩) l0_1.length c1):=(blk_cell BK8 1).trans rfl
   have HBK6 := Aside0.mk BK6
   have HBK8 := Aside0.mk BK8
   have HG1 := Aside0.mk hgl1
   have HG2 := Aside0.mk hgb1
   clear BK6 BK8 hgl1 hgb1
   have hl48 : ([] : List S36).length + (l0_1.length - 1) ≤ 1048577:=by have:=HL.out;simp;omega
   have HL48 := Aside0.mk hl48
   clear hl48
   go_wp2_with (first|(go_at_call 75;refine (del75 g l0_1.length c1 i l0_1 _ _ _ (Kd.R_alloc HR2.out _) HI.out).mono ?_;rintro e w3 ⟨rfl,HR3,hg3⟩;have HR3:=Aside0.mk HR3;have HG3:=Aside0.mk hg3;clear hg3)|((with_reducible refine gate_dst (N:=26) rfl ?_);refine stopG ?_))
   show wpList _ _ _ _ _ _
   refine Kd.R_append_rows k36 (w0:=w) w.heap.size (by rfl) (.tmp 19) (.tmp 25) 27 36 (.agg #[.int .i64 0,.string ⟨#[]⟩,.int .i64 0,.string ⟨#[]⟩]) 48 rfl Try.underlying27 info36 rfl (by decide) (by omega) (.slice (some ⟨w2.heap.size,0,none⟩) 0 0) ([] : List S36) (l0_1.eraseIdx i) (some ⟨g,0,none⟩) (l0_1.length - 1) c1 (fun k => w2.heap.size ≤ k) (fun _ => False) rfl rfl ?aO (by have h_:=(Kd.R_reads' HR3.out).2.2;rw [List.length_eraseIdx_of_lt HI.out] at h_;exact h_) (fun _ _ h => h) (fun _ h => h.elim) ?aF ?aB ?aS ?aL ?_
   (case aF => exact fun k hk => Nat.le_trans (by have:=HG3.out.size;rw [tk_size] at this;omega) hk)
   (case aL => have := HL48.out; omega)
   (case aS => have:=HG3.out.size;rw [tk_size] at this;have:=HB2.out.size;omega)
   (case aB => exact (HB2.out.alloc HB2.out.size _).grown HG3.out (by rw [tk_size];have:=HB2.out.size;omega) (fun k hk => by injection hk with hk;subst hk;have:=HG2.out;omega))
   (case aO => exact ⟨fun k hk => by (have : w2.heap.size = k:=by simpa [Value.ownBlock] using hk);omega,[],⟨rfl,.inr ⟨w2.heap.size,0,#[],rfl,by have:=HB2.out.size;omega,(HG3.out.block _ (by rw [tk_size];omega) (by intro e_;injection e_ with e_;have:=HG1.out;omega)).trans (tk_new _ _),Nat.le_refl _,Nat.zero_le _,rfl,rfl⟩⟩,Reps.none _ _⟩)
   intro v4 w4 HR4 hb4 hg4 hat4
   obtain ⟨A4, c4, ev4⟩ := Kd.R_slice HR4
   subst ev4
   have HR4 := Aside0.mk HR4
   have HB4 := Aside0.mk hb4
   clear hb4 hat4
   have q8:=(hg4.block w1.heap.size (by have:=HG3.out.size;rw [tk_size] at this;omega) (by intro e_;have e_ : w1.heap.size = w2.heap.size:=Option.some.inj e_;omega)).trans ((HG3.out.block w1.heap.size (by rw [tk_size];omega) (by intro e_;injection e_ with e_;have:=HG1.out;omega)).trans (blk_alloc HBK8.out _))
   have q6:=(hg4.block (w.heap.size + 1) (by have:=HG3.out.size;rw [tk_size] at this;omega) (by intro e_;have e_ : w.heap.size + 1 = w2.heap.size:=Option.some.inj e_;omega)).trans ((HG3.out.block (w.heap.size + 1) (by rw [tk_size];omega) (by intro e_;injection e_ with e_;have:=HG2.out;omega)).trans (blk_alloc HBK6.out _))
   clear hg4
   have e80 : w4.cell? ⟨w1.heap.size,0,none⟩ = some (.int .i64 a0_0):=(blk_cell q8 0).trans rfl
   have e81' : w4.cell? ⟨w1.heap.size,1,none⟩ = some (.slice (some ⟨g,0,none⟩) l0_1.length c1):=(blk_cell q8 1).trans rfl
   have e60 : w4.cell? ⟨w.heap.size + 1,0,none⟩ = some (.int .i64 0):=(blk_cell q6 0).trans rfl
   have e61 : w4.cell? ⟨w.heap.size + 1,1,none⟩ = some (.slice none 0 0):=(blk_cell q6 1).trans rfl
   have z81 := blk_frozen q8 1
   have z60 := blk_frozen q6 0
   have z61 := blk_frozen q6 1
   have Q6 := Aside0.mk q6
   clear q6 q8
   go_wp2
   refine bodyPost_ret (results_ct rfl _ _ (w.heap.size + 1) 29 #[.int .i64 a0_0,.slice A4 (l0_1.eraseIdx i).length c4] (0,0) _ rfl (blk_put (cs:=#[.int .i64 a0_0,.slice none 0 0]) (blk_put (cs:=#[.int .i64 0,.slice none 0 0]) (blk_far Q6.out fne4 _) 0 _ rfl) 1 _ rfl) Try.underlying29 rfl (by kernel_rfl)) rfl ?_
   refine ⟨_, rfl, ?_, ?_⟩
   ·have h1 := HR4.out
    exact Kd.R_mono (Kd.R_far (p:=⟨w.heap.size + 1,1,none⟩) (Kd.R_far (p:=⟨w.heap.size + 1,0,none⟩) (Kd.R_far (p:=⟨w1.heap.size,1,none⟩) h1 (fun k hk => by show k ≠ w1.heap.size;omega) _) (fun k hk => by show k ≠ w.heap.size + 1;omega) _) (fun k hk => by show k ≠ w.heap.size + 1;omega) _) (fun _ _ => trivial)
   ·exact below_set (below_set (below_set HB4.out (by show w.heap.size ≤ w1.heap.size;omega)) (by show w.heap.size ≤ w.heap.size + 1;omega)) (by show w.heap.size ≤ w.heap.size + 1;omega)
 ·rw [if_neg hl] at h; cases h

end Go.Proofs.Ytbpmfdpbgcpjeaa.PFnExactCatTake
