-- Written by a program of this session over the print's form. Lean checks it.
import Derived.Test.YtlfnjkcgefcidaaProg
import Derived.Below
import Derived.Deep.Draws
import Derived.Deep.AppendLies
import Derived.Maps.AppendAt
import Derived.OwnWalk
import Derived.Laws.BytesArg
import Derived.Laws.MakeOwn
import Derived.Laws.OwnMore
import Derived.Deep.OwnRows
import Derived.Tactics
import Derived.Lib.ConvBytes
import Derived.Laws.Slices
import Derived.WalkKit
import Derived.KernelRfl
import Derived.RowKit3
import Derived.Deep.LoopGhost
import Derived.Deep.QuietTactic
import Derived.BigQuiet
import Derived.WideLaws
import Derived.Deep.DeepCutAuto
import Derived.Deep.CutBlock
import Derived.Deep.RegionHeld3
import Derived.Laws.Rows
import Derived.Lib.AppendStr
import Derived.ArgAppend
import Derived.Laws.IdiomCopy
import Derived.OrdersHeld
import Derived.Laws.BitsLemmas
import Derived.RowKit
import Derived.Shelf.Abstract
import Derived.Lib.SliceRun
import Derived.Test.YtlfnjkcgefcidaaVWords
import Derived.Test.YtlfnjkcgefcidaaVLast
import Derived.Test.YtlfnjkcgefcidaaVTab
import Derived.Test.YtlfnjkcgefcidaaVFour
import Derived.Test.YtlfnjkcgefcidaaVQPut
import Derived.Test.YtlfnjkcgefcidaaVApart
import Derived.Test.YtlfnjkcgefcidaaVArr
import Derived.Test.YtlfnjkcgefcidaaVZeros
import Derived.Test.YtlfnjkcgefcidaaVFoot
import Derived.Test.YtlfnjkcgefcidaaVKept
import Derived.Test.YtlfnjkcgefcidaaVShare
import Derived.Test.YtlfnjkcgefcidaaVN
import Derived.Test.YtlfnjkcgefcidaaVFootNe
import Derived.Test.YtlfnjkcgefcidaaVAt
import Derived.Test.YtlfnjkcgefcidaaVEqStruct
import Derived.Test.YtlfnjkcgefcidaaVRepsOne
import Derived.Test.YtlfnjkcgefcidaaVInv
import Derived.Test.YtlfnjkcgefcidaaVInvWords
import Derived.Test.YtlfnjkcgefcidaaVGuard
import Derived.Test.YtlfnjkcgefcidaaVNEv
import Derived.Test.YtlfnjkcgefcidaaVMore
namespace Go.Proofs.Ytlfnjkcgefcidaa.PFnPoolDrop
open Go.RowKit Go.Proofs.YtlfnjkcgefcidaaW.PrintWords Go.Proofs.YtlfnjkcgefcidaaW.PrintLast Go.Proofs.YtlfnjkcgefcidaaW.PrintMore
theorem zH {p : Prop} (h : p := by repeat (first|(with_reducible first|exact (Aside0.out (by assumption))|apply KeepBut.set_|apply keep_drewN|apply keep_drew|apply keep_alloc|refine keep_far ?_ (Aside0.out (by assumption)) _)|exact (Aside0.out (by assumption)))) : p := h
theorem zB {p : Prop} (h : p := by repeat (first|(with_reducible first|exact (Aside0.out (by assumption))|apply below_alloc|apply pw_below_drewN|apply below_drew1|refine below_set ?_ (Aside0.out (by assumption)))|exact (Aside0.out (by assumption)))) : p := h
theorem zK {p : Prop} (h : p := by (with_reducible repeat (first|refine blk_drewN ?_ _|refine blk_drew ?_|refine blk_alloc ?_ _));first|exact Aside0.out (by with_reducible assumption)|exact (Aside0.out (by assumption))) : p := h
set_option linter.defProp false
def Mb (n b : Nat) : Array Bool := ((List.range n).map fun i => b.testBit i).toArray
theorem z_c {w W : World} {p : Addr} {v : Value} (hb : Below w.heap.size w W) (h : w.cell? p = some v) : W.cell? p = w.cell? p := hb.cell (World.block_lt_of_cell? w _ h)
def z_b := @blk_cell
def z_1 := @List.setIfInBounds_toArray
def z_2 := @List.set_cons_zero
def z_3 := @List.set_cons_succ
def z_a := @Aside0.mk
def z_4 := @blk_frozen
def z_5 := @List.length_take
def z_6 := @List.length_drop
def z_7 := @List.map_toArray
theorem z_8 {α β : Type} {o : Option α} {f : α → Option β} {b : β} (h : o.bind f = some b) : ∃ a, o = some a ∧ f a = some b := Option.bind_eq_some_iff.mp h
def z_9 := @of_decide_eq_true
def z_d := @blk_below
def z_e := @decide_eq_true
def z_f := @below_step
def z_g := @below_size
set_option linter.defProp false
def y_b := @blk_drewN
def y_c := @blk_drew
def y_d := @blk_alloc
def y_e := @Kd.R_alloc
def y_f := @Kd.R_drewN
def y_g := @Kd.R_drew
def y_h := @below_alloc
def y_i := @pw_below_drewN
def y_j := @below_drew1
def y_k := @keep_drewN
def y_l := @keep_drew
def y_m := @keep_alloc
def y_n := @KeepBut.set_
def y_o := @Kd.C_alloc
def y_p := @Kd.C_drewN
def y_q := @Kd.C_drew
def y_r := @keep_far
def y_s := @below_set
def y_t := @Kd.R_mono
attribute [local go_sem] max2_int min2_int max_two min_two max_three min_three max_four min_four   -- for this text's walks alone
set_option linter.unusedVariables false
set_option linter.unusedSimpArgs false



def errW : Option Int → Value
 | none => .nilIface
 | some c => .iface 0 (.int .i64 c)
theorem emp1 (l : List UInt8) : (!(l != [])) = l.isEmpty := by cases l <;> rfl
theorem emp2 (l : List UInt8) : (l == []) = l.isEmpty := by cases l <;> rfl
theorem emp3 (l : List UInt8) : (l != []) = !l.isEmpty := by cases l <;> rfl
theorem errW_none : errW none = .nilIface := rfl
theorem errW_some (c : Int) : errW (some c) = .iface 0 (.int .i64 c) := rfl

theorem info3 : (Try.prog.info? 3).map (fun i => (i.zero, i.size, i.bytes)) = some (some (.int .i64 0), 1, 8) := by kernel_rfl
theorem info5 : (Try.prog.info? 5).map (fun i => (i.zero, i.size, i.bytes)) = some (some (.int .u8 0), 1, 1) := by kernel_rfl
theorem info41 : (Try.prog.info? 41).map (fun i => (i.zero, i.size, i.bytes)) = some (some (.agg #[(.int .i64 0), (.int .i64 0), (.int .i64 0), (.int .i64 0), (.bool false)]), 5, 40) := by kernel_rfl
-- the values' own types
/-! #### struct type 41 -/
structure S41 where
 f0 : Int
 f1 : Int
 f2 : Int
 f3 : Int
 f4 : Bool
def z41 : S41 := ⟨(0 : Int), (0 : Int), (0 : Int), (0 : Int), false⟩
def k41 : Kd S41 := Kd.iso (Kd.pair (Kd.int .i64) (Kd.pair (Kd.int .i64) (Kd.pair (Kd.int .i64) (Kd.pair (Kd.int .i64) Kd.bool)))) (fun x : S41 => (x.f0, x.f1, x.f2, x.f3, x.f4))
theorem k41_open {w : World} {x : S41} {cs : List Value} (h : k41.K w x cs) : cs = [.int .i64 x.f0, .int .i64 x.f1, .int .i64 x.f2, .int .i64 x.f3, .bool x.f4] := by
 obtain ⟨_,_,rfl,rfl,⟨_,_,rfl,rfl,⟨_,_,rfl,rfl,⟨_,_,rfl,rfl,rfl⟩⟩⟩⟩:=h;exact rfl
theorem k41_openM {w : World} {base : Nat} {ok : Nat → Prop} {x : S41} {cs : List Value} (h : k41.M w base ok x cs) : cs = [.int .i64 x.f0, .int .i64 x.f1, .int .i64 x.f2, .int .i64 x.f3, .bool x.f4] := by
 obtain ⟨_,_,rfl,rfl,⟨_,_,rfl,rfl,⟨_,_,rfl,rfl,⟨_,_,rfl,rfl,rfl⟩⟩⟩⟩:=h;exact rfl
theorem k41_mk (w : World) (x : S41)  : k41.K w x [.int .i64 x.f0, .int .i64 x.f1, .int .i64 x.f2, .int .i64 x.f3, .bool x.f4] := ⟨[.int .i64 x.f0], [.int .i64 x.f1, .int .i64 x.f2, .int .i64 x.f3, .bool x.f4], rfl, rfl, ⟨[.int .i64 x.f1], [.int .i64 x.f2, .int .i64 x.f3, .bool x.f4], rfl, rfl, ⟨[.int .i64 x.f2], [.int .i64 x.f3, .bool x.f4], rfl, rfl, ⟨[.int .i64 x.f3], [.bool x.f4], rfl, rfl, rfl⟩⟩⟩⟩
theorem k41_mkM (w : World) (base : Nat) (ok : Nat → Prop) (x : S41)  : k41.M w base ok x [.int .i64 x.f0, .int .i64 x.f1, .int .i64 x.f2, .int .i64 x.f3, .bool x.f4] := ⟨[.int .i64 x.f0], [.int .i64 x.f1, .int .i64 x.f2, .int .i64 x.f3, .bool x.f4], rfl, rfl, ⟨[.int .i64 x.f1], [.int .i64 x.f2, .int .i64 x.f3, .bool x.f4], rfl, rfl, ⟨[.int .i64 x.f2], [.int .i64 x.f3, .bool x.f4], rfl, rfl, ⟨[.int .i64 x.f3], [.bool x.f4], rfl, rfl, rfl⟩⟩⟩⟩
def rd_T41 (xs : List S41) (i : Int) : S41 := xs.getD i.toNat z41
theorem at_T41 {w : World} {A : Option Addr} {n : Nat} {xs : List S41} (h : Kd.C k41 w A n xs) (i : Int) (h0 : 0 ≤ i) (h1 : i < n) : ∃ ad , A = some ad ∧ w.cell? (ad.add (i.toNat * 5)) = some (.int .i64 (rd_T41 xs i).f0) ∧ w.cell? ⟨(ad.add (i.toNat * 5)).block, (ad.add (i.toNat * 5)).off + 1, none⟩ = some (.int .i64 (rd_T41 xs i).f1) ∧ w.cell? ⟨(ad.add (i.toNat * 5)).block, (ad.add (i.toNat * 5)).off + 2, none⟩ = some (.int .i64 (rd_T41 xs i).f2) ∧ w.cell? ⟨(ad.add (i.toNat * 5)).block, (ad.add (i.toNat * 5)).off + 3, none⟩ = some (.int .i64 (rd_T41 xs i).f3) ∧ w.cell? ⟨(ad.add (i.toNat * 5)).block, (ad.add (i.toNat * 5)).off + 4, none⟩ = some (.bool (rd_T41 xs i).f4) := by
 obtain ⟨ad, c, e, _, hK, hc0⟩ := Kd.C_get h z41 i h0 h1;have hc : ∀ j u,c[j]? = some u → w.cell? (ad.add (i.toNat * 5 + j)) = some u:=hc0;obtain rfl := k41_open hK;exact ⟨ad,e,hc 0 _ rfl,by rw [← add_field _ _ 1 (by omega)];exact hc 1 _ rfl,by rw [← add_field _ _ 2 (by omega)];exact hc 2 _ rfl,by rw [← add_field _ _ 3 (by omega)];exact hc 3 _ rfl,by rw [← add_field _ _ 4 (by omega)];exact hc 4 _ rfl⟩

theorem gtr_bytes : ∀ x y : List UInt8, (!(Op.bytesLess x y || x == y)) = Op.bytesLess y x
 | [], [] => by simp [Op.bytesLess]
 | _ :: _, [] => by simp [Op.bytesLess]
 | [], _ :: _ => by simp [Op.bytesLess]
 | a :: x, b :: y => by
  have ih := gtr_bytes x y
  simp only [Op.bytesLess, List.cons_beq_cons]
  by_cases h1 : a < b
  ·have h2 : ¬ b < a := fun h => UInt8.lt_asymm h1 h
   have h3 : ¬ b = a := fun h => UInt8.lt_irrefl _ (h ▸ h1)
   simp [h1, h2, h3]
  ·by_cases h2 : b < a
   ·have h3 : ¬ a = b := fun h => UInt8.lt_irrefl _ (h ▸ h2)
    simp [h1, h2, h3]
   ·have h3 : a = b:=UInt8.le_antisymm (UInt8.not_lt.mp h2) (UInt8.not_lt.mp h1)
    subst h3
    simpa [h1] using ih
theorem gtr_eq (t : TypeId) (a b : ByteArray) : binOp .gtr t (.string a) (.string b) = pure (.bool !(Op.bytesLess a.toList b.toList || a.toList == b.toList)) := by simp [binOp, Op.stringOp]
theorem gtr_run (P : Program) (t : TypeId) (a b : ByteArray) (w : World) : Sem.run P (binOp .gtr t (.string a) (.string b)) w = .ok (.bool (Op.bytesLess b.toList a.toList)) w := by
 rw [gtr_eq, gtr_bytes];rfl

end Go.Proofs.Ytlfnjkcgefcidaa.PFnPoolDrop
