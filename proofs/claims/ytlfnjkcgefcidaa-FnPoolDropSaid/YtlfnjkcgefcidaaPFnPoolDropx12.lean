-- Written by a program of this session over the print's form. Lean checks it.
import Derived.Test.YtlfnjkcgefcidaaPFnPoolDropx0
import Derived.Test.YtlfnjkcgefcidaaPFnPoolDropx7
import Derived.Test.YtlfnjkcgefcidaaPFnPoolDropx11
namespace Go.Proofs.Ytlfnjkcgefcidaa.PFnPoolDrop
open Go.RowKit Go.Proofs.YtlfnjkcgefcidaaW.PrintWords Go.Proofs.YtlfnjkcgefcidaaW.PrintLast Go.Proofs.YtlfnjkcgefcidaaW.PrintMore
attribute [local go_sem] max2_int min2_int max_two min_two max_three min_three max_four min_four   -- for this text's walks alone
set_option linter.unusedVariables false
set_option linter.unusedSimpArgs false

/-! ### impl_Pool_drop: function 58 -/
theorem tk_new (w : World) (o : Obj) : (w.alloc o).heap[w.heap.size]? = some o := by
 show (w.heap.push o)[w.heap.size]? = some o;exact Array.getElem?_push_size
theorem tk_size (w : World) (o : Obj) : (w.alloc o).heap.size = w.heap.size + 1 := Array.size_push ..
theorem tk_new2 (w : World) (o o2 : Obj) : ((w.alloc o).alloc o2).heap[w.heap.size + 1]? = some o2 := by
 have h := tk_new (w.alloc o) o2
 rwa [tk_size] at h
/-- What becomes of a frame where an edition is dropped. -/
def drF (e : Int) (x : S41) : S41 := if x.f1 = e ∧ x.f3 = 0 then (⟨0, 0, 0, 0, false⟩ : S41) else x
/-- The row where the first n frames are done. -/
def drN (e : Int) (l : List S41) (n : Nat) : List S41 := (l.take n).map (drF e) ++ l.drop n
theorem drN_len (e : Int) (l : List S41) (n : Nat) : (drN e l n).length = l.length := by
 unfold drN;rw [List.length_append,List.length_map,z_5,z_6];omega
theorem drN_rd (e : Int) (l : List S41) (n : Nat) (h : n < l.length) : rd_T41 (drN e l n) (n : Int) = rd_T41 l (n : Int) := by
 unfold rd_T41 drN;rw [List.getD_eq_getElem?_getD,List.getD_eq_getElem?_getD,Int.toNat_natCast,List.getElem?_append_right (by simp;omega),List.getElem?_drop];have : n + (n - ((l.take n).map (drF e)).length) = n:=by simp;omega
 rw [this]
theorem drN_next (e : Int) (l : List S41) (n : Nat) (h : n < l.length) : drN e l (n + 1) = (drN e l n).set n (drF e (rd_T41 l (n : Int))) := by
 unfold drN;have hl : ((l.take n).map (drF e)).length = n:=by simp;omega
 have hr : rd_T41 l (n : Int) = l[n] := by
  unfold rd_T41;rw [List.getD_eq_getElem?_getD,Int.toNat_natCast,List.getElem?_eq_getElem h];rfl
 rw [List.set_append_right _ _ (by omega),hl,Nat.sub_self,List.drop_eq_getElem_cons h,z_2,List.take_succ_eq_append_getElem h,List.map_append,List.append_assoc,hr];rfl
theorem drN_same (e : Int) (l : List S41) (n : Nat) (h : n < l.length) (hs : drF e (rd_T41 l (n : Int)) = rd_T41 l (n : Int)) : drN e l (n + 1) = drN e l n := by
 have hr : rd_T41 l (n : Int) = l[n] := by
  unfold rd_T41;rw [List.getD_eq_getElem?_getD,Int.toNat_natCast,List.getElem?_eq_getElem h];rfl
 rw [hr] at hs;unfold drN;rw [List.drop_eq_getElem_cons h,List.take_succ_eq_append_getElem h,List.map_append,List.append_assoc,List.map_cons,List.map_nil,hs];rfl
theorem drN_all (e : Int) (l : List S41) : drN e l l.length = l.map (drF e) := by unfold drN; simp
def impl_Pool_drop.f (l0_0 : List (S41)) (a0_1 : Int) (a1 : Int) : Option ((List (S41)) × Int) := if l0_0.length < 1048577 then some (l0_0.map (drF a1), a0_1) else none
set_option maxHeartbeats 8000000 in
set_option maxRecDepth 1000000 in
theorem impl_Pool_drop.calls (A0_0 : Option Addr) (c0_0 : Nat) (l0_0 : List (S41)) (a0_1 : Int) (a1 : Int) (r1 : List (S41)) (r2 : Int) (w : World) (hr0_0 : Kd.C k41 w A0_0 l0_0.length l0_0) (hc0_0 : l0_0.length ≤ c0_0) (h : impl_Pool_drop.f l0_0 a0_1 a1 = some (r1, r2)) :
  Calls Try.prog 58 #[.agg #[.slice A0_0 l0_0.length c0_0, .int .i64 a0_1], .int .i64 a1] w fun e w' => ∃ v0_ : Value, e = .returned (.agg #[v0_, .int .i64 r2]) ∧ Kd.R k41 41 w' w.heap.size (fun _ => True) v0_ r1 ∧ Below w.heap.size w w' := by
 have hu29 := Try.underlying29;have hu27 := Try.underlying27;have hu41 := Try.underlying41;have HR := z_a hr0_0;have HC := z_a hc0_0;clear hr0_0 hc0_0;unfold impl_Pool_drop.f at h
 by_cases hl : l0_0.length < 1048577
 ·rw [if_pos hl] at h;simp only [Option.some.injEq, Prod.mk.injEq] at h;obtain ⟨rfl, rfl⟩ := h;have hclone : impl_clonePool.f l0_0 a0_1 = some (l0_0,a0_1):=by
   unfold impl_clonePool.f;have g : ([] : List S41).length + l0_0.length < 3518437208883:=by simp;omega
   simp only [Option.bind_some, if_pos g, List.nil_append]
  have HCL := z_a hclone;have HL := z_a hl;clear hclone hl
  go_enter Try.func58, Try.ntmps58
  go_wp2_with (go_at_call 53;refine (impl_clonePool.calls A0_0 c0_0 l0_0 a0_1 l0_0 a0_1 _ (y_o (y_o HR.out _) _) HC.out HCL.out).mono ?_;rintro e w1 ⟨v1,rfl,HR1,hb1⟩;obtain ⟨A1,c1,ev1⟩:=Kd.R_slice HR1;subst ev1;have fsz : w.heap.size + 1 < w1.heap.size:=(by have:=hb1.size;rw [tk_size,tk_size] at this;omega);have fb6:=(hb1.block (w.heap.size + 1) (by rw [tk_size,tk_size];omega)).trans (tk_new2 _ _ _);have FB6:=z_a fb6;clear fb6;have HB1 : Aside0 (Below w.heap.size w w1):=⟨(y_h (y_h (Below.refl _ _) _) _).trans (hb1.mono (by rw [tk_size,tk_size];omega))⟩;have FR : Aside0 (Kd.R k41 41 w1 w.heap.size (fun k => w.heap.size + 2 ≤ k ∧ k < w1.heap.size) (.slice A1 l0_0.length c1) l0_0):=⟨Kd.R_lower (y_t (Kd.R_bound HR1) (fun k hk => ⟨by have:=hk.2.1;rw [tk_size,tk_size] at this;omega,hk.2.2.1⟩)) (by rw [tk_size,tk_size];omega)⟩;clear hb1 HR1)
  go_loopg [13] l0_0.length (fun gg s13 wr => ∃ x : Nat,s13 = .int .i64 (x : Int) ∧ Aside0 (x ≤ l0_0.length ∧ l0_0.length - x ≤ gg) ∧ Aside0 (Kd.R k41 41 wr w.heap.size (fun k => w.heap.size + 2 ≤ k ∧ k < w1.heap.size) (.slice A1 l0_0.length c1) (drN a1 l0_0 x)) ∧ Aside0 (wr.heap[w1.heap.size]? = some (.cells #[.slice A1 l0_0.length c1,.int .i64 a0_1] 29 (0,0))) ∧ Aside0 (wr.heap[w.heap.size + 1]? = some (.cells #[.slice none 0 0,.int .i64 0] 29 (0,0))) ∧ Aside0 (Below w.heap.size w wr) ∧ Aside0 (w1.heap.size < wr.heap.size))
  case atStart =>
   refine ⟨0,rfl,⟨Nat.zero_le _,by omega⟩,⟨y_e FR.out _⟩,⟨tk_new _ _⟩,⟨y_d FB6.out _⟩,⟨HB1.out.alloc (by omega) _⟩,⟨by rw [tk_size];omega⟩⟩
  case round =>
   obtain ⟨x, rfl, HX, HRX, HB5, HB6, HBW, HSZ⟩ := hrel;have hb5_0 : wr.cell? ⟨w1.heap.size,0,none⟩ = some (.slice A1 l0_0.length c1):=(z_b HB5.out 0).trans rfl;have hb5_1 : wr.cell? ⟨w1.heap.size,1,none⟩ = some (.int .i64 a0_1):=(z_b HB5.out 1).trans rfl;have hb6_0 : wr.cell? ⟨w.heap.size + 1,0,none⟩ = some (.slice none 0 0):=(z_b HB6.out 0).trans rfl;have hb6_1 : wr.cell? ⟨w.heap.size + 1,1,none⟩ = some (.int .i64 0):=(z_b HB6.out 1).trans rfl;have hz6_0 := z_4 HB6.out 0;have hz6_1 := z_4 HB6.out 1
   by_cases hlt : x < l0_0.length
   ·obtain ⟨g,c2,ev,hgb,hgl,_⟩:=Kd.R_form HRX.out (by rw [drN_len];omega)
    injection ev with ea en ec
    subst ea;subst ec;have hok := HRX.out.1 g (by simp [Value.ownBlock]);have hsz := HSZ.out;have fg : g ≠ wr.heap.size := by omega
    have fg5 : w1.heap.size ≠ wr.heap.size := by omega
    have fg6 : w.heap.size + 1 ≠ wr.heap.size := by omega
    have fgx : w1.heap.size ≠ g := by omega
    have fgy : w.heap.size + 1 ≠ g := by omega
    have hll := HL.out;have hw1 : wrap64 ((x : Int) + 1) = ((x + 1 : Nat) : Int):=by unfold wrap64;omega
    obtain ⟨ce,hcl,hM,hcc,hfr⟩:=Kd.R_elem HRX.out z41 (x : Int) (by omega) (by omega);obtain rfl := k41_openM hM;have hx0 : wr.cell? ⟨g,x * 5,none⟩ = some (.int .i64 ((rd_T41 (drN a1 l0_0 x) (x : Int)).f0)):=hcc 0 _ rfl;have hx1 : wr.cell? ⟨g,x * 5 + 1,none⟩ = some (.int .i64 ((rd_T41 (drN a1 l0_0 x) (x : Int)).f1)):=hcc 1 _ rfl;have hx2 : wr.cell? ⟨g,x * 5 + 2,none⟩ = some (.int .i64 ((rd_T41 (drN a1 l0_0 x) (x : Int)).f2)):=hcc 2 _ rfl;have hx3 : wr.cell? ⟨g,x * 5 + 3,none⟩ = some (.int .i64 ((rd_T41 (drN a1 l0_0 x) (x : Int)).f3)):=hcc 3 _ rfl;have hx4 : wr.cell? ⟨g,x * 5 + 4,none⟩ = some (.bool ((rd_T41 (drN a1 l0_0 x) (x : Int)).f4)):=hcc 4 _ rfl;have hf0 : wr.frozen? ⟨g, x * 5, none⟩ = false := hfr 0;have hf1 : wr.frozen? ⟨g, x * 5 + 1, none⟩ = false := hfr 1;have hf2 : wr.frozen? ⟨g, x * 5 + 2, none⟩ = false := hfr 2;have hf3 : wr.frozen? ⟨g, x * 5 + 3, none⟩ = false := hfr 3;have hf4 : wr.frozen? ⟨g, x * 5 + 4, none⟩ = false := hfr 4;clear hcl hM hcc hfr;rw [drN_rd a1 l0_0 x hlt] at hx0 hx1 hx2 hx3 hx4;have HNX := z_a (drN_next a1 l0_0 x hlt);have HSM := z_a (drN_same a1 l0_0 x hlt);have q0 : (0 ≤ (x : Int)) = True := eq_true (by omega);have q1 : ((x : Int) < (l0_0.length : Int)) = True:=eq_true (by omega);have HLT := z_a hlt;have HOK := z_a hok;generalize hfr_ : rd_T41 l0_0 (x : Int) = fr at hx0 hx1 hx2 hx3 hx4 HNX HSM;have HFR := z_a hfr_;clear hfr_;clear hlt hok hgb hgl en hll
    by_cases k1 : fr.f1 = a1
    ·have k1b : (fr.f1 == a1) = true := beq_iff_eq.mpr k1
     by_cases k3 : fr.f3 = 0
     ·have k3b : (fr.f3 == 0) = true := beq_iff_eq.mpr k3;have hd : drF a1 fr = (⟨0,0,0,0,false⟩ : S41):=by unfold drF;rw [if_pos ⟨k1,k3⟩]
      have HD := z_a hd;clear k1 k3 hd;obtain ⟨ce,hcl,hM,hcc,hfr⟩:=Kd.R_elem (y_e HRX.out (Obj.cells #[.int .i64 fr.f0,.int .i64 fr.f1,.int .i64 fr.f2,.int .i64 fr.f3,.bool fr.f4] 41)) z41 (x : Int) (by omega) (by have:=HLT.out;omega);obtain rfl := k41_openM hM;have hp:=Kd.R_seg (y_e HRX.out (Obj.cells #[.int .i64 fr.f0,.int .i64 fr.f1,.int .i64 fr.f2,.int .i64 fr.f3,.bool fr.f4] 41)) (x : Int) (by omega) (by have:=HLT.out;omega) (seg:=[.int .i64 0,.int .i64 0,.int .i64 0,.int .i64 0,.bool false]) (j:=0) hcl hcc (show 5 ≤ 5 from by decide) (x':=(⟨0,0,0,0,false⟩ : S41)) (k41_mkM _ _ _ (⟨0,0,0,0,false⟩ : S41)) (fun _ hk => hk);have HP := z_a hp;have hy0 : (wr.alloc (Obj.cells #[.int .i64 fr.f0,.int .i64 fr.f1,.int .i64 fr.f2,.int .i64 fr.f3,.bool fr.f4] 41)).cell? ⟨g,x * 5,none⟩ = some (.int .i64 ((rd_T41 (drN a1 l0_0 x) (x : Int)).f0)):=hcc 0 _ rfl;have hy1 : (wr.alloc (Obj.cells #[.int .i64 fr.f0,.int .i64 fr.f1,.int .i64 fr.f2,.int .i64 fr.f3,.bool fr.f4] 41)).cell? ⟨g,x * 5 + 1,none⟩ = some (.int .i64 ((rd_T41 (drN a1 l0_0 x) (x : Int)).f1)):=hcc 1 _ rfl;have hy2 : (wr.alloc (Obj.cells #[.int .i64 fr.f0,.int .i64 fr.f1,.int .i64 fr.f2,.int .i64 fr.f3,.bool fr.f4] 41)).cell? ⟨g,x * 5 + 2,none⟩ = some (.int .i64 ((rd_T41 (drN a1 l0_0 x) (x : Int)).f2)):=hcc 2 _ rfl
      have hy3 : (wr.alloc (Obj.cells #[.int .i64 fr.f0,.int .i64 fr.f1,.int .i64 fr.f2,.int .i64 fr.f3,.bool fr.f4] 41)).cell? ⟨g,x * 5 + 3,none⟩ = some (.int .i64 ((rd_T41 (drN a1 l0_0 x) (x : Int)).f3)):=hcc 3 _ rfl;have hy4 : (wr.alloc (Obj.cells #[.int .i64 fr.f0,.int .i64 fr.f1,.int .i64 fr.f2,.int .i64 fr.f3,.bool fr.f4] 41)).cell? ⟨g,x * 5 + 4,none⟩ = some (.bool ((rd_T41 (drN a1 l0_0 x) (x : Int)).f4)):=hcc 4 _ rfl;have hg0 : (wr.alloc (Obj.cells #[.int .i64 fr.f0,.int .i64 fr.f1,.int .i64 fr.f2,.int .i64 fr.f3,.bool fr.f4] 41)).frozen? ⟨g,x * 5,none⟩ = false:=hfr 0;have hg1 : (wr.alloc (Obj.cells #[.int .i64 fr.f0,.int .i64 fr.f1,.int .i64 fr.f2,.int .i64 fr.f3,.bool fr.f4] 41)).frozen? ⟨g,x * 5 + 1,none⟩ = false:=hfr 1;have hg2 : (wr.alloc (Obj.cells #[.int .i64 fr.f0,.int .i64 fr.f1,.int .i64 fr.f2,.int .i64 fr.f3,.bool fr.f4] 41)).frozen? ⟨g,x * 5 + 2,none⟩ = false:=hfr 2;have hg3 : (wr.alloc (Obj.cells #[.int .i64 fr.f0,.int .i64 fr.f1,.int .i64 fr.f2,.int .i64 fr.f3,.bool fr.f4] 41)).frozen? ⟨g,x * 5 + 3,none⟩ = false:=hfr 3;have hg4 : (wr.alloc (Obj.cells #[.int .i64 fr.f0,.int .i64 fr.f1,.int .i64 fr.f2,.int .i64 fr.f3,.bool fr.f4] 41)).frozen? ⟨g,x * 5 + 4,none⟩ = false:=hfr 4;rw [drN_rd a1 l0_0 x HLT.out,HFR.out] at hy0 hy1 hy2 hy3 hy4;clear hcl hM hcc hfr hp;have hgw : w.heap.size ≤ g := by have := HOK.out; omega
      have ew : ((((((wr.alloc (Obj.cells #[.int .i64 fr.f0,.int .i64 fr.f1,.int .i64 fr.f2,.int .i64 fr.f3,.bool fr.f4] 41)).setCell ⟨g,x * 5,none⟩ (.int .i64 0)).setCell ⟨g,x * 5 + 1,none⟩ (.int .i64 0)).setCell ⟨g,x * 5 + 2,none⟩ (.int .i64 0)).setCell ⟨g,x * 5 + 3,none⟩ (.int .i64 0)).setCell ⟨g,x * 5 + 4,none⟩ (.bool false)) = (wr.alloc (Obj.cells #[.int .i64 fr.f0,.int .i64 fr.f1,.int .i64 fr.f2,.int .i64 fr.f3,.bool fr.f4] 41)).setCells g ((x : Int).toNat * k41.sz + 0) [.int .i64 0,.int .i64 0,.int .i64 0,.int .i64 0,.bool false]:=rfl;have EW := z_a ew;clear ew
      go_wp2
      go_roundg (gk - 1)
      case measure => have := HX.out; have := HLT.out; omega
      case rel =>
       refine ⟨x + 1,by simp,⟨by have:=HX.out;have:=HLT.out;omega⟩,⟨?_⟩,⟨blk_far (blk_far (blk_far (blk_far (blk_far (y_d HB5.out _) fgx _) fgx _) fgx _) fgx _) fgx _⟩,⟨blk_far (blk_far (blk_far (blk_far (blk_far (y_d HB6.out _) fgy _) fgy _) fgy _) fgy _) fgy _⟩,⟨y_s (y_s (y_s (y_s (y_s (HBW.out.alloc HBW.out.size _) hgw) hgw) hgw) hgw) hgw⟩,⟨?_⟩⟩
       ·rw [EW.out, HNX.out, HD.out];exact HP.out.1
       rw [EW.out];have h_ := HP.out.2.size;rw [tk_size] at h_;have := HSZ.out;exact Nat.lt_of_lt_of_le (by omega) h_
     have k3b : (fr.f3 == 0) = false:=beq_eq_false_iff_ne.mpr k3;have hd : drF a1 fr = fr:=by unfold drF;rw [if_neg (fun h => k3 h.2)]
     have HD := z_a hd;clear k1 k3 hd
     go_wp2
     go_roundg (gk - 1)
     case measure => have := HX.out; have := HLT.out; omega
     case rel => exact ⟨x + 1,by simp,⟨by have:=HX.out;have:=HLT.out;omega⟩,⟨by rw [HSM.out HD.out];exact y_e HRX.out _⟩,⟨y_d HB5.out _⟩,⟨y_d HB6.out _⟩,⟨HBW.out.alloc HBW.out.size _⟩,⟨by rw [tk_size];have:=HSZ.out;omega⟩⟩
    have k1b : (fr.f1 == a1) = false:=beq_eq_false_iff_ne.mpr k1;have hd : drF a1 fr = fr:=by unfold drF;rw [if_neg (fun h => k1 h.1)]
    have HD := z_a hd;clear k1 hd
    go_wp2
    go_roundg (gk - 1)
    case measure => have := HX.out; have := HLT.out; omega
    case rel => exact ⟨x + 1,by simp,⟨by have:=HX.out;have:=HLT.out;omega⟩,⟨by rw [HSM.out HD.out];exact y_e HRX.out _⟩,⟨y_d HB5.out _⟩,⟨y_d HB6.out _⟩,⟨HBW.out.alloc HBW.out.size _⟩,⟨by rw [tk_size];have:=HSZ.out;omega⟩⟩
   have hx : x = l0_0.length := by have := HX.out; omega
   subst hx;have n1 : ((l0_0.length : Int) < (l0_0.length : Int)) = False:=eq_false (by omega);have fnb : w1.heap.size ≠ w.heap.size + 1 := by omega
   clear hlt
   go_wp2
   refine bodyPost_ret (results_cell_row rfl _ _ (w.heap.size + 1) 29 #[.slice A1 l0_0.length c1,.int .i64 a0_1] (0,0) _ rfl (blk_put (cs:=#[.slice A1 l0_0.length c1,.int .i64 0]) (blk_put (cs:=#[.slice none 0 0,.int .i64 0]) HB6.out 0 _ rfl) 1 _ rfl) Try.underlying29 rfl (by kernel_rfl)) rfl ?_;refine ⟨_, rfl, ?_, ?_⟩
   ·have h1 := HRX.out;rw [drN_all] at h1;exact y_t (Kd.R_far (p:=⟨w.heap.size + 1,1,none⟩) (Kd.R_far (p:=⟨w.heap.size + 1,0,none⟩) h1 (fun k hk => by show k ≠ w.heap.size + 1;omega) _) (fun k hk => by show k ≠ w.heap.size + 1;omega) _) (fun _ _ => trivial)
   exact y_s (y_s HBW.out (by show w.heap.size ≤ w.heap.size + 1;omega)) (by show w.heap.size ≤ w.heap.size + 1;omega)
 rw [if_neg hl] at h; cases h

/-! ### impl_PoolDrop: function 29 -/
def impl_PoolDrop.f (k : Nat) (l0_0 : List (S41)) (a0_1 : Int) (a1 : Int) : Option ((List (S41)) × Int) := (impl_PoolOk.f k l0_0 a0_1).bind fun t175 => (if t175 = true then ((impl_Pool_drop.f l0_0 a0_1 a1).bind fun bt176 => (some (bt176.1, bt176.2))) else (some (([] : List (S41)), 0)))
theorem impl_PoolDrop.mono : ∀ a0 a1 a2 k, LeO (impl_PoolDrop.f k a0 a1 a2) (impl_PoolDrop.f (k + 1) a0 a1 a2) := by
 intro a0 a1 a2 k;unfold impl_PoolDrop.f
 repeat' first
   | (with_reducible exact impl_PoolOk.mono _ _ _)
   | (with_reducible exact LeO.refl _)
   | (with_reducible exact LeO.none _)
   | (with_reducible refine LeO.ite ?_ ?_)
   | (with_reducible refine LeO.bind ?_ (fun _ => ?_))
   | exact impl_PoolOk.mono _ _ _
   | exact LeO.none _
   | refine LeO.ite ?_ ?_
   | refine LeO.bind ?_ (fun _ => ?_)
set_option maxHeartbeats 8000000 in
set_option maxRecDepth 100000 in
theorem impl_PoolDrop.calls (k : Nat) (A0_0 : Option Addr) (c0_0 : Nat) (l0_0 : List (S41)) (a0_1 : Int) (a1 : Int) (r1 : List (S41)) (r2 : Int) (w : World) (hr0_0 : Kd.C k41 w A0_0 l0_0.length l0_0) (hc0_0 : l0_0.length ≤ c0_0) (h : impl_PoolDrop.f k l0_0 a0_1 a1 = some (r1, r2)) :
  Calls Try.prog 29 #[.agg #[.slice A0_0 l0_0.length c0_0, .int .i64 a0_1], .int .i64 a1] w fun e w' => ∃ v0_ : Value, e = .returned (.agg #[v0_, .int .i64 r2]) ∧ Kd.R k41 41 w' w.heap.size (fun _ => True) v0_ r1 ∧ Below w.heap.size w w' := by
 have hu29 := Try.underlying29;have HR0_0 := z_a hr0_0;have HC0_0 := z_a hc0_0;clear hr0_0 hc0_0;have HB := z_a (Below.refl w.heap.size w);have H : ((impl_PoolOk.f k l0_0 a0_1).bind fun t175 => (if t175 = true then ((impl_Pool_drop.f l0_0 a0_1 a1).bind fun bt176 => (some (bt176.1,bt176.2))) else (some (([] : List (S41)),0)))) = some (r1,r2):=h;clear h;replace H := z_8 H;obtain ⟨t175, A30, H⟩ := H;replace H : (if t175 = true then ((impl_Pool_drop.f l0_0 a0_1 a1).bind fun bt176 => (some (bt176.1,bt176.2))) else (some (([] : List (S41)),0))) = some (r1,r2):=H;have A3 := z_a A30;clear A30
 by_cases c4 : t175 = true
 ·subst c4;have H1 : ((impl_Pool_drop.f l0_0 a0_1 a1).bind fun bt176 => (some (bt176.1,bt176.2))) = some (r1,r2):=by rw [if_pos rfl] at H;exact H
  clear H;have H := H1;clear H1;replace H := z_8 H;obtain ⟨⟨t176, t179⟩, A50, H⟩ := H;replace H : (some (t176, t179)) = some (r1, r2) := H;have A5 := z_a A50;clear A50;simp only [Option.some.injEq, Prod.mk.injEq] at H;obtain ⟨rfl, rfl⟩ := H
  go_enter Try.func29, Try.ntmps29
  go_wp2_with (first|((with_reducible refine gate_dst (N:=2) rfl ?_);refine box_event ?hg (N:=2) ?hd (cs:=#[.slice A0_0 l0_0.length c0_0,.int .i64 a0_1]) (t:=29) ?hr ?_;(case hd => rfl);(case hg => rfl);(case hr => first|(go_simp;done)|(go_simp;rfl));intro gb173 hg w6 hbox hb;have n0_:=z_a (z_f zB hb);have n1_:=z_a (hbox);have n2_:=z_a ((by rw [hg];exact (z_g zB) : w.heap.size ≤ gb173));have n3_:=z_a ((by rw [hg];exact (z_g zB) : w.heap.size ≤ gb173));clear HB;have HB:=n0_;have BK173:=n1_;have GW173:=n2_;have GE173:=n3_;clear n0_ n1_ n2_ n3_;clear hb hbox hg)|((with_reducible refine gate_dst (N:=4) rfl ?_);refine box_event ?hg (N:=4) ?hd (cs:=#[.slice none 0 0,.int .i64 0]) (t:=29) ?hr ?_;(case hd => rfl);(case hg => rfl);(case hr => first|(go_simp;done)|(go_simp;rfl));intro gb174 hg w7 hbox hb;have n0_:=z_a (z_d (g:=gb173) zK hb);have n1_:=z_a (z_f zB hb);have n2_:=z_a (hbox);have n3_:=z_a ((by rw [hg];exact (z_g zB) : w.heap.size ≤ gb174));have n4_:=z_a ((by rw [hg];exact (z_g zB) : w.heap.size ≤ gb174));have n5_:=z_a ((by rw [hg];exact Nat.ne_of_lt (blk_lt (g:=gb173) (o:=.cells #[.slice A0_0 l0_0.length c0_0,.int .i64 a0_1] 29 (0,0)) zK) : gb173 ≠ gb174));have n6_:=z_a ((by rw [hg];exact Nat.ne_of_gt (blk_lt (g:=gb173) (o:=.cells #[.slice A0_0 l0_0.length c0_0,.int .i64 a0_1] 29 (0,0)) zK) : gb174 ≠ gb173));clear BK173 HB;have BK173:=n0_;have HB:=n1_;have BK174:=n2_;have GW174:=n3_;have GE174:=n4_;have NB173_174:=n5_;have NB174_173:=n6_;clear n0_ n1_ n2_ n3_ n4_ n5_ n6_;clear hb hbox hg;have hnb8:=NB173_174.out;have hnc8:=NB174_173.out;have hcz9_0 : w7.cell? ⟨gb173,0,none⟩ = some (.slice A0_0 l0_0.length c0_0):=(z_b BK173.out 0).trans rfl;have hcz9_1 : w7.cell? ⟨gb173,1,none⟩ = some (.int .i64 a0_1):=(z_b BK173.out 1).trans rfl;have hfz9_0:=z_4 BK173.out 0;have hfz9_1:=z_4 BK173.out 1)|((with_reducible refine gate_callee (f:=18) rfl ?_);refine goesL_ (some 6) rfl rfl Try.func18 (by kernel_rfl) rfl #[.agg #[.slice A0_0 l0_0.length c0_0,.int .i64 a0_1]] rfl (by (try simp only [z_7,List.map_cons,List.map_nil]);first|done|rfl|(simp only [z_6,z_5];rfl)) ?_;(with_reducible refine (impl_PoolOk.calls k _ _ l0_0 a0_1 true _ ?side1 ?side2 A3.out).mono ?_);(case side1 => repeat (first|exact (Kd.C_below HR0_0.out HB.out)|(with_reducible refine y_o ?_ _)|(with_reducible refine y_p ?_ _)|(with_reducible refine y_q ?_)));(case side2 => exact HC0_0.out);rintro e w10 ⟨rfl,hb⟩;refine ⟨_,rfl,?_⟩;have n0_:=z_a (z_d (g:=gb173) zK hb);have n1_:=z_a (z_d (g:=gb174) zK hb);have n2_:=z_a (z_f zB hb);clear BK173 BK174 HB;have BK173:=n0_;have BK174:=n1_;have HB:=n2_;clear n0_ n1_ n2_;(try clear hb);(try clear hb2);(try clear hk);(try clear hi);have hcz11_0 : w10.cell? ⟨gb173,0,none⟩ = some (.slice A0_0 l0_0.length c0_0):=(z_b BK173.out 0).trans rfl;have hcz11_1 : w10.cell? ⟨gb173,1,none⟩ = some (.int .i64 a0_1):=(z_b BK173.out 1).trans rfl;have hfz11_0:=z_4 BK173.out 0;have hfz11_1:=z_4 BK173.out 1)|((with_reducible refine gate_callee (f:=58) rfl ?_);refine goesL_ (some 11) rfl rfl Try.func58 (by kernel_rfl) rfl #[.agg #[.slice A0_0 l0_0.length c0_0,.int .i64 a0_1],.int .i64 a1] rfl (by (try simp only [z_7,List.map_cons,List.map_nil]);first|done|rfl|(simp only [z_6,z_5];rfl)) ?_;(with_reducible refine (impl_Pool_drop.calls _ _ l0_0 a0_1 a1 t176 t179 _ ?side1 ?side2 A5.out).mono ?_);(case side1 => repeat (first|exact (Kd.C_below HR0_0.out HB.out)|(with_reducible refine y_o ?_ _)|(with_reducible refine y_p ?_ _)|(with_reducible refine y_q ?_)));(case side2 => exact HC0_0.out);rintro e w12 ⟨v177,rfl,ho0,hb⟩;refine ⟨_,rfl,?_⟩;have n0_:=z_a (Kd.R_lower ho0 (z_g zB));have n1_:=z_a (z_d (g:=gb173) zK hb);have n2_:=z_a (z_d (g:=gb174) zK hb);have n3_:=z_a (z_f zB hb);clear BK173 BK174 HB;have HO178:=n0_;have BK173:=n1_;have BK174:=n2_;have HB:=n3_;clear n0_ n1_ n2_ n3_;(try clear hb);(try clear hb2);(try clear hk);(try clear hi);(try clear ho0);obtain ⟨Ao13,co13,eo13⟩:=Kd.R_slice HO178.out;subst eo13;have hcz14_0 : w12.cell? ⟨gb174,0,none⟩ = some (.slice none 0 0):=(z_b BK174.out 0).trans rfl;have hcz14_1 : w12.cell? ⟨gb174,1,none⟩ = some (.int .i64 0):=(z_b BK174.out 1).trans rfl;have hfz14_0:=z_4 BK174.out 0;have hfz14_1:=z_4 BK174.out 1))
  refine bodyPost_ret (results_cell_row rfl _ _ gb174 29 #[.slice Ao13 t176.length co13,.int .i64 t179] (0,0) _ rfl (by (with_reducible repeat (first|refine y_b ?_ _|refine y_c ?_|refine y_d ?_ _));refine blk_put (cs:=#[.slice Ao13 t176.length co13,.int .i64 0]) ?_ 1 _ rfl;(with_reducible repeat (first|refine y_b ?_ _|refine y_c ?_|refine y_d ?_ _));refine blk_put (cs:=#[.slice none 0 0,.int .i64 0]) ?_ 0 _ rfl;(with_reducible repeat (first|refine y_b ?_ _|refine y_c ?_|refine y_d ?_ _));exact BK174.out) Try.underlying29 rfl (by kernel_rfl)) rfl ?_;exact ⟨_,by first|rfl|(simp [errW_none,errW_some] <;> rfl)|(simp [*,errW_none,errW_some] <;> rfl),by (with_reducible repeat (first|apply y_e|apply y_f|apply y_g));exact y_t (Kd.R_far (p:=⟨gb174,1,none⟩) (Kd.R_far (p:=⟨gb174,0,none⟩) (Kd.R_types HO178.out BK174.out (by decide)) (fun _ hk => hk.2) (.slice Ao13 t176.length co13)) (fun _ hk => hk.2) (.int .i64 t179)) (fun _ hk => trivial),zB⟩
 replace c4 := Bool.eq_false_iff.mpr c4;subst c4;have H1 : (some (([] : List (S41)),0)) = some (r1,r2):=by rw [if_neg (show ¬ (false = true) by decide)] at H;exact H
 clear H;have H := H1;clear H1;simp only [Option.some.injEq, Prod.mk.injEq] at H;obtain ⟨rfl, rfl⟩ := H
 go_enter Try.func29, Try.ntmps29
 go_wp2_with (first|((with_reducible refine gate_dst (N:=2) rfl ?_);refine box_event ?hg (N:=2) ?hd (cs:=#[.slice A0_0 l0_0.length c0_0,.int .i64 a0_1]) (t:=29) ?hr ?_;(case hd => rfl);(case hg => rfl);(case hr => first|(go_simp;done)|(go_simp;rfl));intro gb173 hg w15 hbox hb;have n0_:=z_a (z_f zB hb);have n1_:=z_a (hbox);have n2_:=z_a ((by rw [hg];exact (z_g zB) : w.heap.size ≤ gb173));have n3_:=z_a ((by rw [hg];exact (z_g zB) : w.heap.size ≤ gb173));clear HB;have HB:=n0_;have BK173:=n1_;have GW173:=n2_;have GE173:=n3_;clear n0_ n1_ n2_ n3_;clear hb hbox hg)|((with_reducible refine gate_dst (N:=4) rfl ?_);refine box_event ?hg (N:=4) ?hd (cs:=#[.slice none 0 0,.int .i64 0]) (t:=29) ?hr ?_;(case hd => rfl);(case hg => rfl);(case hr => first|(go_simp;done)|(go_simp;rfl));intro gb174 hg w16 hbox hb;have n0_:=z_a (z_d (g:=gb173) zK hb);have n1_:=z_a (z_f zB hb);have n2_:=z_a (hbox);have n3_:=z_a ((by rw [hg];exact (z_g zB) : w.heap.size ≤ gb174));have n4_:=z_a ((by rw [hg];exact (z_g zB) : w.heap.size ≤ gb174));have n5_:=z_a ((by rw [hg];exact Nat.ne_of_lt (blk_lt (g:=gb173) (o:=.cells #[.slice A0_0 l0_0.length c0_0,.int .i64 a0_1] 29 (0,0)) zK) : gb173 ≠ gb174));have n6_:=z_a ((by rw [hg];exact Nat.ne_of_gt (blk_lt (g:=gb173) (o:=.cells #[.slice A0_0 l0_0.length c0_0,.int .i64 a0_1] 29 (0,0)) zK) : gb174 ≠ gb173));clear BK173 HB;have BK173:=n0_;have HB:=n1_;have BK174:=n2_;have GW174:=n3_;have GE174:=n4_;have NB173_174:=n5_;have NB174_173:=n6_;clear n0_ n1_ n2_ n3_ n4_ n5_ n6_;clear hb hbox hg;have hnb17:=NB173_174.out;have hnc17:=NB174_173.out;have hcz18_0 : w16.cell? ⟨gb173,0,none⟩ = some (.slice A0_0 l0_0.length c0_0):=(z_b BK173.out 0).trans rfl;have hcz18_1 : w16.cell? ⟨gb173,1,none⟩ = some (.int .i64 a0_1):=(z_b BK173.out 1).trans rfl;have hfz18_0:=z_4 BK173.out 0;have hfz18_1:=z_4 BK173.out 1)|((with_reducible refine gate_callee (f:=18) rfl ?_);refine goesL_ (some 6) rfl rfl Try.func18 (by kernel_rfl) rfl #[.agg #[.slice A0_0 l0_0.length c0_0,.int .i64 a0_1]] rfl (by (try simp only [z_7,List.map_cons,List.map_nil]);first|done|rfl|(simp only [z_6,z_5];rfl)) ?_;(with_reducible refine (impl_PoolOk.calls k _ _ l0_0 a0_1 false _ ?side1 ?side2 A3.out).mono ?_);(case side1 => repeat (first|exact (Kd.C_below HR0_0.out HB.out)|(with_reducible refine y_o ?_ _)|(with_reducible refine y_p ?_ _)|(with_reducible refine y_q ?_)));(case side2 => exact HC0_0.out);rintro e w19 ⟨rfl,hb⟩;refine ⟨_,rfl,?_⟩;have n0_:=z_a (z_d (g:=gb173) zK hb);have n1_:=z_a (z_d (g:=gb174) zK hb);have n2_:=z_a (z_f zB hb);clear BK173 BK174 HB;have BK173:=n0_;have BK174:=n1_;have HB:=n2_;clear n0_ n1_ n2_;(try clear hb);(try clear hb2);(try clear hk);(try clear hi);have hcz20_0 : w19.cell? ⟨gb174,0,none⟩ = some (.slice none 0 0):=(z_b BK174.out 0).trans rfl;have hcz20_1 : w19.cell? ⟨gb174,1,none⟩ = some (.int .i64 0):=(z_b BK174.out 1).trans rfl;have hfz20_0:=z_4 BK174.out 0;have hfz20_1:=z_4 BK174.out 1))
 refine bodyPost_ret (results_cell_row rfl _ _ gb174 29 #[.slice none 0 0,.int .i64 0] (0,0) _ rfl (by (with_reducible repeat (first|refine y_b ?_ _|refine y_c ?_|refine y_d ?_ _));refine blk_put (cs:=#[.slice none 0 0,.int .i64 0]) ?_ 1 _ rfl;(with_reducible repeat (first|refine y_b ?_ _|refine y_c ?_|refine y_d ?_ _));refine blk_put (cs:=#[.slice none 0 0,.int .i64 0]) ?_ 0 _ rfl;(with_reducible repeat (first|refine y_b ?_ _|refine y_c ?_|refine y_d ?_ _));exact BK174.out) Try.underlying29 rfl (by kernel_rfl)) rfl ?_;exact ⟨_,by first|rfl|(simp [errW_none,errW_some] <;> rfl)|(simp [*,errW_none,errW_some] <;> rfl),by first|exact Kd.R_nil _ _ _ _ _|exact Kd.N_nil _ _ _ _ _|exact Kd.V_nil _ _ _ _ _|exact Kd.Q_nil _ _ _ _ _|exact Kd.S_nil _ _ _ _ _,zB⟩

end Go.Proofs.Ytlfnjkcgefcidaa.PFnPoolDrop
