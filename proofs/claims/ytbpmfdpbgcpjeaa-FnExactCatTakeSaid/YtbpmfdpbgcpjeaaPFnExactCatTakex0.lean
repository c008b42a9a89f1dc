-- Written by a program of this session over the print's form. Lean checks it.
import Derived.Test.YtbpmfdpbgcpjeaaProg
import Derived.Below
import Derived.Deep.Draws
import Derived.Deep.AppendLies
import Derived.Maps.AppendAt
import Derived.OwnWalk
import Derived.Laws.BytesArg
import Derived.Laws.MakeOwn
import Derived.Laws.OwnMore
import Derived.Deep.OwnRows
import Derived.Tactics
import Derived.Lib.ConvBytes
import Derived.Laws.Slices
import Derived.WalkKit
import Derived.KernelRfl
import Derived.RowKit3
import Derived.Deep.LoopGhost
import Derived.Deep.QuietTactic
import Derived.BigQuiet
import Derived.WideLaws
import Derived.Deep.DeepCutAuto
import Derived.Deep.CutBlock
import Derived.Deep.RegionHeld3
import Derived.Laws.Rows
import Derived.Lib.AppendStr
import Derived.ArgAppend
import Derived.Laws.IdiomCopy
import Derived.OrdersHeld
import Derived.Laws.BitsLemmas
import Derived.RowKit
import Derived.Shelf.Abstract
import Derived.Lib.SliceRun
import Derived.Shelf.RegionOpenPlain
import Derived.Deep.RegionLaw
import Derived.Test.YtbpmfdpbgcpjeaaVWords
import Derived.Test.YtbpmfdpbgcpjeaaVLast
import Derived.Test.YtbpmfdpbgcpjeaaVTab
import Derived.Test.YtbpmfdpbgcpjeaaVFour
import Derived.Test.YtbpmfdpbgcpjeaaVQPut
import Derived.Test.YtbpmfdpbgcpjeaaVApart
import Derived.Test.YtbpmfdpbgcpjeaaVArr
import Derived.Test.YtbpmfdpbgcpjeaaVZeros
import Derived.Test.YtbpmfdpbgcpjeaaVFoot
import Derived.Test.YtbpmfdpbgcpjeaaVKept
import Derived.Test.YtbpmfdpbgcpjeaaVShare
import Derived.Test.YtbpmfdpbgcpjeaaVN
import Derived.Test.YtbpmfdpbgcpjeaaVFootNe
import Derived.Test.YtbpmfdpbgcpjeaaVAt
import Derived.Test.YtbpmfdpbgcpjeaaVEqStruct
import Derived.Test.YtbpmfdpbgcpjeaaVRepsOne
import Derived.Test.YtbpmfdpbgcpjeaaVInv
import Derived.Test.YtbpmfdpbgcpjeaaVInvWords
import Derived.Test.YtbpmfdpbgcpjeaaVGuard
import Derived.Test.YtbpmfdpbgcpjeaaVNEv
import Derived.Test.YtbpmfdpbgcpjeaaVMore
namespace Go.Proofs.Ytbpmfdpbgcpjeaa.PFnExactCatTake
open Go.RowKit Go.Proofs.YtbpmfdpbgcpjeaaW.PrintWords Go.Proofs.YtbpmfdpbgcpjeaaW.PrintLast Go.Proofs.YtbpmfdpbgcpjeaaW.PrintMore
attribute [local go_sem] max2_int min2_int max_two min_two max_three min_three max_four min_four   -- for this text's walks alone
set_option linter.unusedVariables false
set_option linter.unusedSimpArgs false



def errW : Option Int → Value
 | none => .nilIface
 | some c => .iface 0 (.int .i64 c)
theorem emp1 (l : List UInt8) : (!(l != [])) = l.isEmpty := by cases l <;> rfl
theorem emp2 (l : List UInt8) : (l == []) = l.isEmpty := by cases l <;> rfl
theorem emp3 (l : List UInt8) : (l != []) = !l.isEmpty := by cases l <;> rfl
theorem errW_none : errW none = .nilIface := rfl
theorem errW_some (c : Int) : errW (some c) = .iface 0 (.int .i64 c) := rfl

theorem info3 : (Try.prog.info? 3).map (fun i => (i.zero, i.size, i.bytes)) = some (some (.int .i64 0), 1, 8) := by kernel_rfl
theorem info5 : (Try.prog.info? 5).map (fun i => (i.zero, i.size, i.bytes)) = some (some (.int .u8 0), 1, 1) := by kernel_rfl
theorem info36 : (Try.prog.info? 36).map (fun i => (i.zero, i.size, i.bytes)) = some (some (.agg #[(.int .i64 0), (.string ⟨#[]⟩), (.int .i64 0), (.string ⟨#[]⟩)]), 4, 48) := by kernel_rfl
-- the values' own types
/-! #### struct type 78 -/
structure S78 where
 f0 : Int
 f1 : ByteArray
 f2 : Int
 f3 : ByteArray
def z78 : S78 := ⟨(0 : Int), (⟨#[]⟩ : ByteArray), (0 : Int), (⟨#[]⟩ : ByteArray)⟩
def k78 : Kd S78 := Kd.iso (Kd.pair (Kd.int .i64) (Kd.pair Kd.string (Kd.pair (Kd.int .i64) Kd.string))) (fun x : S78 => (x.f0, x.f1, x.f2, x.f3))
theorem k78_open {w : World} {x : S78} {cs : List Value} (h : k78.K w x cs) : cs = [.int .i64 x.f0, .string x.f1, .int .i64 x.f2, .string x.f3] := by
 obtain ⟨_,_,rfl,rfl,⟨_,_,rfl,rfl,⟨_,_,rfl,rfl,rfl⟩⟩⟩:=h
 exact rfl
theorem k78_openM {w : World} {base : Nat} {ok : Nat → Prop} {x : S78} {cs : List Value} (h : k78.M w base ok x cs) : cs = [.int .i64 x.f0, .string x.f1, .int .i64 x.f2, .string x.f3] := by
 obtain ⟨_,_,rfl,rfl,⟨_,_,rfl,rfl,⟨_,_,rfl,rfl,rfl⟩⟩⟩:=h
 exact rfl
theorem k78_mk (w : World) (x : S78)  : k78.K w x [.int .i64 x.f0, .string x.f1, .int .i64 x.f2, .string x.f3] := ⟨[.int .i64 x.f0], [.string x.f1, .int .i64 x.f2, .string x.f3], rfl, rfl, ⟨[.string x.f1], [.int .i64 x.f2, .string x.f3], rfl, rfl, ⟨[.int .i64 x.f2], [.string x.f3], rfl, rfl, rfl⟩⟩⟩
theorem k78_mkM (w : World) (base : Nat) (ok : Nat → Prop) (x : S78)  : k78.M w base ok x [.int .i64 x.f0, .string x.f1, .int .i64 x.f2, .string x.f3] := ⟨[.int .i64 x.f0], [.string x.f1, .int .i64 x.f2, .string x.f3], rfl, rfl, ⟨[.string x.f1], [.int .i64 x.f2, .string x.f3], rfl, rfl, ⟨[.int .i64 x.f2], [.string x.f3], rfl, rfl, rfl⟩⟩⟩
def rd_T78 (xs : List S78) (i : Int) : S78 := xs.getD i.toNat z78
theorem at_T78 {w : World} {A : Option Addr} {n : Nat} {xs : List S78} (h : Kd.C k78 w A n xs) (i : Int) (h0 : 0 ≤ i) (h1 : i < n) : ∃ ad , A = some ad ∧ w.cell? (ad.add (i.toNat * 4)) = some (.int .i64 (rd_T78 xs i).f0) ∧ w.cell? ⟨(ad.add (i.toNat * 4)).block, (ad.add (i.toNat * 4)).off + 1, none⟩ = some (.string (rd_T78 xs i).f1) ∧ w.cell? ⟨(ad.add (i.toNat * 4)).block, (ad.add (i.toNat * 4)).off + 2, none⟩ = some (.int .i64 (rd_T78 xs i).f2) ∧ w.cell? ⟨(ad.add (i.toNat * 4)).block, (ad.add (i.toNat * 4)).off + 3, none⟩ = some (.string (rd_T78 xs i).f3) := by
 obtain ⟨ad, c, e, _, hK, hc0⟩ := Kd.C_get h z78 i h0 h1
 have hc : ∀ j u,c[j]? = some u → w.cell? (ad.add (i.toNat * 4 + j)) = some u:=hc0
 obtain rfl := k78_open hK
 exact ⟨ad,e,hc 0 _ rfl,by rw [← add_field _ _ 1 (by omega)];exact hc 1 _ rfl,by rw [← add_field _ _ 2 (by omega)];exact hc 2 _ rfl,by rw [← add_field _ _ 3 (by omega)];exact hc 3 _ rfl⟩

/-! #### struct type 36 -/
structure S36 where
 f0 : Int
 f1 : ByteArray
 f2 : Int
 f3 : ByteArray
def z36 : S36 := ⟨(0 : Int), (⟨#[]⟩ : ByteArray), (0 : Int), (⟨#[]⟩ : ByteArray)⟩
def k36 : Kd S36 := Kd.iso (Kd.pair (Kd.int .i64) (Kd.pair Kd.string (Kd.pair (Kd.int .i64) Kd.string))) (fun x : S36 => (x.f0, x.f1, x.f2, x.f3))
theorem k36_open {w : World} {x : S36} {cs : List Value} (h : k36.K w x cs) : cs = [.int .i64 x.f0, .string x.f1, .int .i64 x.f2, .string x.f3] := by
 obtain ⟨_,_,rfl,rfl,⟨_,_,rfl,rfl,⟨_,_,rfl,rfl,rfl⟩⟩⟩:=h
 exact rfl
theorem k36_openM {w : World} {base : Nat} {ok : Nat → Prop} {x : S36} {cs : List Value} (h : k36.M w base ok x cs) : cs = [.int .i64 x.f0, .string x.f1, .int .i64 x.f2, .string x.f3] := by
 obtain ⟨_,_,rfl,rfl,⟨_,_,rfl,rfl,⟨_,_,rfl,rfl,rfl⟩⟩⟩:=h
 exact rfl
theorem k36_mk (w : World) (x : S36)  : k36.K w x [.int .i64 x.f0, .string x.f1, .int .i64 x.f2, .string x.f3] := ⟨[.int .i64 x.f0], [.string x.f1, .int .i64 x.f2, .string x.f3], rfl, rfl, ⟨[.string x.f1], [.int .i64 x.f2, .string x.f3], rfl, rfl, ⟨[.int .i64 x.f2], [.string x.f3], rfl, rfl, rfl⟩⟩⟩
theorem k36_mkM (w : World) (base : Nat) (ok : Nat → Prop) (x : S36)  : k36.M w base ok x [.int .i64 x.f0, .string x.f1, .int .i64 x.f2, .string x.f3] := ⟨[.int .i64 x.f0], [.string x.f1, .int .i64 x.f2, .string x.f3], rfl, rfl, ⟨[.string x.f1], [.int .i64 x.f2, .string x.f3], rfl, rfl, ⟨[.int .i64 x.f2], [.string x.f3], rfl, rfl, rfl⟩⟩⟩
def rd_T36 (xs : List S36) (i : Int) : S36 := xs.getD i.toNat z36
theorem at_T36 {w : World} {A : Option Addr} {n : Nat} {xs : List S36} (h : Kd.C k36 w A n xs) (i : Int) (h0 : 0 ≤ i) (h1 : i < n) : ∃ ad , A = some ad ∧ w.cell? (ad.add (i.toNat * 4)) = some (.int .i64 (rd_T36 xs i).f0) ∧ w.cell? ⟨(ad.add (i.toNat * 4)).block, (ad.add (i.toNat * 4)).off + 1, none⟩ = some (.string (rd_T36 xs i).f1) ∧ w.cell? ⟨(ad.add (i.toNat * 4)).block, (ad.add (i.toNat * 4)).off + 2, none⟩ = some (.int .i64 (rd_T36 xs i).f2) ∧ w.cell? ⟨(ad.add (i.toNat * 4)).block, (ad.add (i.toNat * 4)).off + 3, none⟩ = some (.string (rd_T36 xs i).f3) := by
 obtain ⟨ad, c, e, _, hK, hc0⟩ := Kd.C_get h z36 i h0 h1
 have hc : ∀ j u,c[j]? = some u → w.cell? (ad.add (i.toNat * 4 + j)) = some u:=hc0
 obtain rfl := k36_open hK
 exact ⟨ad,e,hc 0 _ rfl,by rw [← add_field _ _ 1 (by omega)];exact hc 1 _ rfl,by rw [← add_field _ _ 2 (by omega)];exact hc 2 _ rfl,by rw [← add_field _ _ 3 (by omega)];exact hc 3 _ rfl⟩

theorem gtr_bytes : ∀ x y : List UInt8, (!(Op.bytesLess x y || x == y)) = Op.bytesLess y x
 | [], [] => by simp [Op.bytesLess]
 | _ :: _, [] => by simp [Op.bytesLess]
 | [], _ :: _ => by simp [Op.bytesLess]
 | a :: x, b :: y => by
  have ih := gtr_bytes x y
  simp only [Op.bytesLess, List.cons_beq_cons]
  by_cases h1 : a < b
  ·have h2 : ¬ b < a := fun h => UInt8.lt_asymm h1 h
   have h3 : ¬ b = a := fun h => UInt8.lt_irrefl _ (h ▸ h1)
   simp [h1, h2, h3]
  ·by_cases h2 : b < a
   ·have h3 : ¬ a = b := fun h => UInt8.lt_irrefl _ (h ▸ h2)
    simp [h1, h2, h3]
   ·have h3 : a = b:=UInt8.le_antisymm (UInt8.not_lt.mp h2) (UInt8.not_lt.mp h1)
    subst h3
    simpa [h1] using ih
theorem gtr_eq (t : TypeId) (a b : ByteArray) : binOp .gtr t (.string a) (.string b) = pure (.bool !(Op.bytesLess a.toList b.toList || a.toList == b.toList)) := by simp [binOp, Op.stringOp]
theorem gtr_run (P : Program) (t : TypeId) (a b : ByteArray) (w : World) : Sem.run P (binOp .gtr t (.string a) (.string b)) w = .ok (.bool (Op.bytesLess b.toList a.toList)) w := by
 rw [gtr_eq, gtr_bytes]
 rfl
/-- The place of the first element of which p holds,counted from n;-1 if there is none. -/
def idxFrom (p : S36 → Bool) : List S36 → Int → Int
 | [], _ => -1
 | x :: t, n => if p x = true then n else idxFrom p t (n + 1)
theorem idxFrom_at (p : S36 → Bool) (l : List S36) (x : Int) (h0 : 0 ≤ x) (h1 : x < l.length) : idxFrom p (l.drop x.toNat) x = if p (rd_T36 l x) = true then x else idxFrom p (l.drop (x + 1).toNat) (x + 1) := by
 have hx : x.toNat < l.length := by omega
 rw [List.drop_eq_getElem_cons hx,show (x + 1).toNat = x.toNat + 1 by omega]
 have : rd_T36 l x = l[x.toNat]:=by unfold rd_T36;rw [List.getD_eq_getElem?_getD,List.getElem?_eq_getElem hx];rfl
 rw [this]
 rfl
set_option maxHeartbeats 4000000 in
theorem idx67 (p : S36 → Bool) (g : Nat) (lb : Array Value) (eg : ∀ args w, (callFunc g args).run Try.prog w = .ok (.enter g args) w) (A : Option Addr) (c : Nat) (l : List S36) (w : World) (hr : Kd.C k36 w A l.length l)
  (hp : ∀ (W : World) (x : S36),Below w.heap.size w W → Calls Try.prog g (#[.agg #[.int .i64 x.f0,.string x.f1,.int .i64 x.f2,.string x.f3]]++lb) W fun e w' => e = .returned (.bool (p x)) ∧ Below w.heap.size w w') :
  Calls Try.prog 67 #[.slice A l.length c, .func (.func g) #[] lb] w fun e w' => e = .returned (.int .i64 (idxFrom p l 0)) ∧ Below w.heap.size w w' := by
 have hu36 := Try.underlying36
 have hmax := Kd.C_max hr
 have HR := Aside0.mk hr
 have HP := Aside0.mk hp
 have HB0 := Aside0.mk (Below.refl w.heap.size w)
 clear hr hp
 generalize hq0 : idxFrom p l 0 = r
 have HQ := Aside0.mk hq0
 clear hq0
 go_enter Try.func67, Try.ntmps67
 go_wp2
 go_loopg [5,8] l.length (fun gg _ s8 wr => ∃ x : Int,s8 = .int .i64 x ∧ Aside0 (0 ≤ x ∧ x ≤ l.length ∧ l.length - x ≤ gg) ∧ Aside0 (idxFrom p (l.drop x.toNat) x = r) ∧ Aside0 (Below w.heap.size w wr))
 case atStart => exact ⟨0, rfl, ⟨by omega⟩, HQ, HB0⟩
 case round =>
  obtain ⟨x, rfl, HX, HI, HB⟩ := hrel
  by_cases hlt : x < (l.length : Int)
  ·obtain ⟨ad,e,h0,h1,h2,h3⟩:=at_T36 HR.out x HX.out.1 hlt
   cases e
   have e2 := idxFrom_at p l x HX.out.1 hlt
   rw [HI.out] at e2
   have E2 := Aside0.mk e2
   clear e2
   have hcall := HP.out wr (rd_T36 l x) HB.out
   replace h0:=(HB.out.cell (World.block_lt_of_cell? w _ h0)).trans h0
   replace h1:=(HB.out.cell (World.block_lt_of_cell? w _ h1)).trans h1
   replace h2:=(HB.out.cell (World.block_lt_of_cell? w _ h2)).trans h2
   replace h3:=(HB.out.cell (World.block_lt_of_cell? w _ h3)).trans h3
   have hw : wrap64 (x + 1) = x + 1:=(by have:=HX.out;unfold wrap64;omega)
   have p0 := eq_true HX.out.1
   have q0 := eq_true hlt
   have HLT := Aside0.mk hlt
   clear hlt
   cases hq : p (rd_T36 l x) with
   | true =>
    rw [hq] at hcall
    go_wp2
    refine hcall.mono ?_
    rintro e w' ⟨rfl, hb'⟩
    go_wp2
    go_ret
    have hrx : r = x := by rw [E2.out, if_pos hq]
    subst hrx
    exact ⟨rfl, hb'⟩
   | false =>
    rw [hq] at hcall
    go_wp2
    refine hcall.mono ?_
    rintro e w' ⟨rfl, hb'⟩
    go_wp2
    go_roundg (gk - 1)
    case measure => have := HX.out; have := HLT.out; omega
    case rel => exact ⟨x + 1,by first|rfl|(go_num;done)|simp [hw],⟨by have:=HX.out;have:=HLT.out;omega⟩,⟨by rw [E2.out,if_neg (by rw [hq];decide)]⟩,⟨hb'⟩⟩
  ·have : x = l.length := by have := HX.out; omega
   subst this
   go_wp2
   go_ret
   refine ⟨?_, HB.out⟩
   have := HI.out
   rw [show ((l.length : Int)).toNat = l.length by omega,List.drop_length] at this
   rw [← this]
   rfl

end Go.Proofs.Ytbpmfdpbgcpjeaa.PFnExactCatTake
