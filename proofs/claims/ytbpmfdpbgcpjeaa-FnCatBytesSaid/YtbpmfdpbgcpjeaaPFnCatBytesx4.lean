-- Written by a program of this session over the print's form. Lean checks it.
import Derived.Test.YtbpmfdpbgcpjeaaPFnCatBytesx0
namespace Go.Proofs.Ytbpmfdpbgcpjeaa.PFnCatBytes
open Go.RowKit Go.Proofs.YtbpmfdpbgcpjeaaW.PrintWords Go.Proofs.YtbpmfdpbgcpjeaaW.PrintLast Go.Proofs.YtbpmfdpbgcpjeaaW.PrintMore
attribute [local go_sem] max2_int min2_int max_two min_two max_three min_three max_four min_four   -- for this text's walks alone
set_option linter.unusedVariables false
set_option linter.unusedSimpArgs false

/-! ### impl_within: function 41 -/
def impl_within.f (a0 : Int) (a1 : Int) (a2 : Int) : Option (Bool) := if a0 ≥ a1 then (some (decide (a0 ≤ a2))) else (some false)
set_option maxHeartbeats 8000000 in
set_option maxRecDepth 100000 in
theorem impl_within.calls (a0 : Int) (a1 : Int) (a2 : Int) (r : Bool) (w : World) (h : impl_within.f a0 a1 a2 = some r) :
  Calls Try.prog 41 #[.int .i64 a0, .int .i64 a1, .int .i64 a2] w fun e w' => e = .returned (.bool r) ∧ Drawn0 w w' := by
 have H : (if a0 ≥ a1 then (some (decide (a0 ≤ a2))) else (some false)) = some r:=h;clear h
 by_cases c4 : a0 ≥ a1
 ·rw [if_pos c4] at H;have c4b0 : decide (a1 ≤ a0) = true := z_e c4;clear c4;obtain rfl := Option.some.inj H
  go_enter Try.func41, Try.ntmps41
  go_wp2
  go_ret
  exact ⟨by first|rfl|(simp;done)|(simp [*];done),by repeat (first|exact Drawn0.refl _|apply Drawn0.step)⟩
 rw [if_neg c4] at H;have c4b0 : decide (a1 ≤ a0) = false := decide_eq_false c4;clear c4;obtain rfl := Option.some.inj H
 go_enter Try.func41, Try.ntmps41
 go_wp2
 go_ret
 exact ⟨by first|rfl|(simp;done)|(simp [*];done),by repeat (first|exact Drawn0.refl _|apply Drawn0.step)⟩

/-! ### impl_house: function 65 -/
def impl_house.f (a0 : Int) : Option (Bool) := (impl_within.f a0 0 1).bind fun t119 => (some t119)
set_option maxHeartbeats 8000000 in
set_option maxRecDepth 100000 in
theorem impl_house.calls (a0 : Int) (r : Bool) (w : World) (h : impl_house.f a0 = some r) :
  Calls Try.prog 65 #[.int .i64 a0] w fun e w' => e = .returned (.bool r) ∧ Drawn0 w w' := by
 have H : ((impl_within.f a0 0 1).bind fun t119 => (some t119)) = some r:=h;clear h;replace H := z_8 H;obtain ⟨t119, A20, H⟩ := H;replace H : (some t119) = some r := H;have A2 := z_a A20;clear A20;obtain rfl := Option.some.inj H
 go_enter Try.func65, Try.ntmps65
 go_wp2_with (first|((with_reducible refine gate_callee (f:=41) rfl ?_);refine goesL_ (some 4) rfl rfl Try.func41 (by kernel_rfl) rfl #[.int .i64 a0,.int .i64 0,.int .i64 1] rfl (by (try simp only [z_7,List.map_cons,List.map_nil]);first|done|rfl|(simp only [z_6,z_5];rfl)) ?_;(with_reducible refine (impl_within.calls a0 0 1 t119 _ A2.out).mono ?_);rintro e w' ⟨rfl,⟨nd,rfl⟩⟩;refine ⟨_,rfl,?_⟩))
 go_ret
 exact ⟨by first|rfl|(simp;done)|(simp [*];done),by repeat (first|exact Drawn0.refl _|apply Drawn0.step)⟩

/-! ### impl_NameOk: function 66 -/
def impl_NameOk.l0 : Nat → ByteArray → Int → Int → Option (Bool)
 | 0, _, _, _ => none
 | k + 1, x0, x5, x6 => if x6 < x5 then (if 0 ≤ x6 then (if x6 < (x0.size : Int) then (if (bt x0 x6) < 97 then (some false) else (if (bt x0 x6) > 122 then (some false) else (impl_NameOk.l0 k x0 x5 (wrap64 (x6 + 1))))) else (none)) else (none)) else ((impl_within.f (x0.size : Int) 1 6).bind fun t120 => (some t120))
def impl_NameOk.f (k : Nat) (a0 : ByteArray) : Option (Bool) := impl_NameOk.l0 k a0 (a0.size : Int) 0
theorem impl_NameOk.mono_l : ∀ k, (∀ y0 y1 y2, LeO (impl_NameOk.l0 k y0 y1 y2) (impl_NameOk.l0 (k + 1) y0 y1 y2))
 | 0 => fun _ _ _ r h => by simp [impl_NameOk.l0] at h
 | k + 1 => by
  have ih0 := impl_NameOk.mono_l k
  ·intro y0 y1 y2
   unfold impl_NameOk.l0
   repeat' first
   | (with_reducible exact ih0 _ _ _)
   | (with_reducible exact LeO.refl _)
   | (with_reducible exact LeO.none _)
   | (with_reducible refine LeO.ite ?_ ?_)
   | (with_reducible refine LeO.bind ?_ (fun _ => ?_))
   | exact ih0 _ _ _
   | exact LeO.none _
   | refine LeO.ite ?_ ?_
   | refine LeO.bind ?_ (fun _ => ?_)
theorem impl_NameOk.mono : ∀ a0 k, LeO (impl_NameOk.f k a0) (impl_NameOk.f (k + 1) a0) := by
 intro a0 k;have ih0 := impl_NameOk.mono_l k;unfold impl_NameOk.f
 repeat' first
   | (with_reducible exact ih0 _ _ _)
   | (with_reducible exact LeO.refl _)
   | (with_reducible exact LeO.none _)
   | (with_reducible refine LeO.ite ?_ ?_)
   | (with_reducible refine LeO.bind ?_ (fun _ => ?_))
   | exact ih0 _ _ _
   | exact LeO.none _
   | refine LeO.ite ?_ ?_
   | refine LeO.bind ?_ (fun _ => ?_)
set_option maxHeartbeats 8000000 in
set_option maxRecDepth 100000 in
theorem impl_NameOk.calls (k : Nat) (a0 : ByteArray) (r : Bool) (w : World) (h : impl_NameOk.f k a0 = some r) :
  Calls Try.prog 66 #[.string a0] w fun e w' => e = .returned (.bool r) ∧ Drawn0 w w' := by
 have H : (impl_NameOk.l0 k a0 (a0.size : Int) 0) = some r:=h;clear h;have H' := z_a H;clear H
 go_enter Try.func66, Try.ntmps66
 go_wp2
 go_loopg [6] k (fun kq v6 w' => ∃ (x6_1 : Int),v6 = .int .i64 x6_1 ∧ Aside0 (impl_NameOk.l0 kq a0 (a0.size : Int) x6_1 = some r) ∧ Aside0 (kq ≤ k) ∧ Drawn0 w w')
 case atStart => exact ⟨(0),(by first|rfl|(simp;done)|(simp [*];done)),H',⟨Nat.le_refl _⟩,by repeat (first|exact Drawn0.refl _|apply Drawn0.step)⟩
 case round =>
  clear H';obtain ⟨x6_1, rfl, HA, HK1, ⟨m1, rfl⟩⟩ := hrel;cases gk with
  | zero => exact absurd HA.out (by simp [impl_NameOk.l0])
  | succ k1 =>
   have H := HA.out;clear HA;simp only [impl_NameOk.l0] at H
   by_cases c2 : x6_1 < (a0.size : Int)
   ·rw [if_pos c2] at H;have c2b0 : decide (x6_1 < (a0.size : Int)) = true:=z_e c2;clear c2
    by_cases c3 : 0 ≤ x6_1
    ·rw [if_pos c3] at H;have c3b0 : decide (0 ≤ x6_1) = true := z_e c3;clear c3
     by_cases c4 : x6_1 < (a0.size : Int)
     ·rw [if_pos c4] at H;have c4b0 : decide (x6_1 < (a0.size : Int)) = true:=z_e c4;clear c4
      by_cases c6 : (bt a0 x6_1) < 97
      ·rw [if_pos c6] at H;have c6b0 : decide ((bt a0 x6_1) < 97) = true:=z_e c6;clear c6;obtain rfl := Option.some.inj H;have p5 : 0 ≤ (x6_1 : Int):=z_9 (by first|(with_reducible assumption)|assumption);have q5 : x6_1 < (a0.size : Int):=z_9 (by first|(with_reducible assumption)|assumption);have hx5 := bt_at a0 x6_1;replace p5 := eq_true p5;replace q5 := eq_true q5
       go_wp2
       go_ret
       exact ⟨by first|rfl|(simp;done)|(simp [*];done),by repeat (first|exact Drawn0.refl _|apply Drawn0.step)⟩
      ·rw [if_neg c6] at H;have c6b0 : decide ((bt a0 x6_1) < 97) = false:=decide_eq_false c6;clear c6
       by_cases c8 : (bt a0 x6_1) > 122
       ·rw [if_pos c8] at H;have c8b0 : decide (122 < (bt a0 x6_1)) = true:=z_e c8;clear c8;obtain rfl := Option.some.inj H;have p5 : 0 ≤ (x6_1 : Int):=z_9 (by first|(with_reducible assumption)|assumption);have q5 : x6_1 < (a0.size : Int):=z_9 (by first|(with_reducible assumption)|assumption);have hx5 := bt_at a0 x6_1;replace p5 := eq_true p5;replace q5 := eq_true q5;have p7 : 0 ≤ (x6_1 : Int):=z_9 (by first|(with_reducible assumption)|assumption);have q7 : x6_1 < (a0.size : Int):=z_9 (by first|(with_reducible assumption)|assumption);have hx7 := bt_at a0 x6_1;replace p7 := eq_true p7;replace q7 := eq_true q7
        go_wp2
        go_ret
        exact ⟨by first|rfl|(simp;done)|(simp [*];done),by repeat (first|exact Drawn0.refl _|apply Drawn0.step)⟩
       ·rw [if_neg c8] at H;have c8b0 : decide (122 < (bt a0 x6_1)) = false:=decide_eq_false c8;clear c8;have H' := z_a H;clear H;have p5 : 0 ≤ (x6_1 : Int):=z_9 (by first|(with_reducible assumption)|assumption);have q5 : x6_1 < (a0.size : Int):=z_9 (by first|(with_reducible assumption)|assumption);have hx5 := bt_at a0 x6_1;replace p5 := eq_true p5;replace q5 := eq_true q5;have p7 : 0 ≤ (x6_1 : Int):=z_9 (by first|(with_reducible assumption)|assumption);have q7 : x6_1 < (a0.size : Int):=z_9 (by first|(with_reducible assumption)|assumption);have hx7 := bt_at a0 x6_1;replace p7 := eq_true p7;replace q7 := eq_true q7
        go_wp2
        go_roundg k1
        case measure => have := HK1.out; omega
        case rel => exact ⟨(wrap64 (x6_1 + 1)),(by first|rfl|(simp;done)|(simp [*];done)),H',⟨by have:=HK1.out;omega⟩,by repeat (first|exact Drawn0.refl _|apply Drawn0.step)⟩
     ·rw [if_neg c4] at H;exact absurd H (by simp)
    ·rw [if_neg c3] at H;exact absurd H (by simp)
   ·rw [if_neg c2] at H;have c2b0 : decide (x6_1 < (a0.size : Int)) = false:=decide_eq_false c2;clear c2;replace H := z_8 H;obtain ⟨t120, A90, H⟩ := H;replace H : (some t120) = some r := H;have A9 := z_a A90;clear A90;obtain rfl := Option.some.inj H
    go_wp2_with (first|((with_reducible refine gate_callee (f:=41) rfl ?_);refine goesL_ (some 22) rfl rfl Try.func41 (by kernel_rfl) rfl #[.int .i64 (a0.size : Int),.int .i64 1,.int .i64 6] rfl (by (try simp only [z_7,List.map_cons,List.map_nil]);first|done|rfl|(simp only [z_6,z_5];rfl)) ?_;(with_reducible refine (impl_within.calls (a0.size : Int) 1 6 t120 _ A9.out).mono ?_);rintro e w' ⟨rfl,⟨nd,rfl⟩⟩;refine ⟨_,rfl,?_⟩))
    go_ret
    exact ⟨by first|rfl|(simp;done)|(simp [*];done),by repeat (first|exact Drawn0.refl _|apply Drawn0.step)⟩

/-! ### impl_publishable: function 42 -/
def impl_publishable.f (k : Nat) (a0 : Int) (a1 : ByteArray) (a2 : ByteArray) : Option (Bool) := (impl_house.f a0).bind fun t121 => (if t121 = true then ((impl_NameOk.f k a1).bind fun t122 => (if t122 = true then ((impl_within.f (a2.size : Int) 1 300).bind fun t123 => (some t123)) else (some false))) else (some false))
theorem impl_publishable.mono : ∀ a0 a1 a2 k, LeO (impl_publishable.f k a0 a1 a2) (impl_publishable.f (k + 1) a0 a1 a2) := by
 intro a0 a1 a2 k;unfold impl_publishable.f
 repeat' first
   | (with_reducible exact impl_NameOk.mono _ _)
   | (with_reducible exact LeO.refl _)
   | (with_reducible exact LeO.none _)
   | (with_reducible refine LeO.ite ?_ ?_)
   | (with_reducible refine LeO.bind ?_ (fun _ => ?_))
   | exact impl_NameOk.mono _ _
   | exact LeO.none _
   | refine LeO.ite ?_ ?_
   | refine LeO.bind ?_ (fun _ => ?_)
set_option maxHeartbeats 8000000 in
set_option maxRecDepth 100000 in
theorem impl_publishable.calls (k : Nat) (a0 : Int) (a1 : ByteArray) (a2 : ByteArray) (r : Bool) (w : World) (h : impl_publishable.f k a0 a1 a2 = some r) :
  Calls Try.prog 42 #[.int .i64 a0, .string a1, .string a2] w fun e w' => e = .returned (.bool r) ∧ Drawn0 w w' := by
 have H : ((impl_house.f a0).bind fun t121 => (if t121 = true then ((impl_NameOk.f k a1).bind fun t122 => (if t122 = true then ((impl_within.f (a2.size : Int) 1 300).bind fun t123 => (some t123)) else (some false))) else (some false))) = some r:=h;clear h;replace H := z_8 H;obtain ⟨t121, A40, H⟩ := H;replace H : (if t121 = true then ((impl_NameOk.f k a1).bind fun t122 => (if t122 = true then ((impl_within.f (a2.size : Int) 1 300).bind fun t123 => (some t123)) else (some false))) else (some false)) = some r:=H;have A4 := z_a A40;clear A40
 by_cases c5 : t121 = true
 ·subst c5;have H1 : ((impl_NameOk.f k a1).bind fun t122 => (if t122 = true then ((impl_within.f (a2.size : Int) 1 300).bind fun t123 => (some t123)) else (some false))) = some r:=by rw [if_pos rfl] at H;exact H
  clear H;have H := H1;clear H1;replace H := z_8 H;obtain ⟨t122, A60, H⟩ := H;replace H : (if t122 = true then ((impl_within.f (a2.size : Int) 1 300).bind fun t123 => (some t123)) else (some false)) = some r:=H;have A6 := z_a A60;clear A60
  by_cases c7 : t122 = true
  ·subst c7;have H1 : ((impl_within.f (a2.size : Int) 1 300).bind fun t123 => (some t123)) = some r:=by rw [if_pos rfl] at H;exact H
   clear H;have H := H1;clear H1;replace H := z_8 H;obtain ⟨t123, A80, H⟩ := H;replace H : (some t123) = some r := H;have A8 := z_a A80;clear A80;obtain rfl := Option.some.inj H
   go_enter Try.func42, Try.ntmps42
   go_wp2_with (first|((with_reducible refine gate_callee (f:=65) rfl ?_);refine goesL_ (some 8) rfl rfl Try.func65 (by kernel_rfl) rfl #[.int .i64 a0] rfl (by (try simp only [z_7,List.map_cons,List.map_nil]);first|done|rfl|(simp only [z_6,z_5];rfl)) ?_;(with_reducible refine (impl_house.calls a0 true _ A4.out).mono ?_);rintro e w' ⟨rfl,⟨nd,rfl⟩⟩;refine ⟨_,rfl,?_⟩)|(go_at_call 66;(with_reducible refine (impl_NameOk.calls k a1 true _ A6.out).mono ?_);rintro e w' ⟨rfl,⟨nd,rfl⟩⟩)|(go_at_call 41;(with_reducible refine (impl_within.calls (a2.size : Int) 1 300 t123 _ A8.out).mono ?_);rintro e w' ⟨rfl,⟨nd,rfl⟩⟩))
   go_ret
   exact ⟨by first|rfl|(simp;done)|(simp [*];done),by repeat (first|exact Drawn0.refl _|apply Drawn0.step)⟩
  replace c7 := Bool.eq_false_iff.mpr c7;subst c7;have H1 : (some false) = some r:=by rw [if_neg (show ¬ (false = true) by decide)] at H;exact H
  clear H;have H := H1;clear H1;obtain rfl := Option.some.inj H
  go_enter Try.func42, Try.ntmps42
  go_wp2_with (first|((with_reducible refine gate_callee (f:=65) rfl ?_);refine goesL_ (some 8) rfl rfl Try.func65 (by kernel_rfl) rfl #[.int .i64 a0] rfl (by (try simp only [z_7,List.map_cons,List.map_nil]);first|done|rfl|(simp only [z_6,z_5];rfl)) ?_;(with_reducible refine (impl_house.calls a0 true _ A4.out).mono ?_);rintro e w' ⟨rfl,⟨nd,rfl⟩⟩;refine ⟨_,rfl,?_⟩)|(go_at_call 66;(with_reducible refine (impl_NameOk.calls k a1 false _ A6.out).mono ?_);rintro e w' ⟨rfl,⟨nd,rfl⟩⟩))
  go_ret
  exact ⟨by first|rfl|(simp;done)|(simp [*];done),by repeat (first|exact Drawn0.refl _|apply Drawn0.step)⟩
 replace c5 := Bool.eq_false_iff.mpr c5;subst c5;have H1 : (some false) = some r:=by rw [if_neg (show ¬ (false = true) by decide)] at H;exact H
 clear H;have H := H1;clear H1;obtain rfl := Option.some.inj H
 go_enter Try.func42, Try.ntmps42
 go_wp2_with (first|((with_reducible refine gate_callee (f:=65) rfl ?_);refine goesL_ (some 8) rfl rfl Try.func65 (by kernel_rfl) rfl #[.int .i64 a0] rfl (by (try simp only [z_7,List.map_cons,List.map_nil]);first|done|rfl|(simp only [z_6,z_5];rfl)) ?_;(with_reducible refine (impl_house.calls a0 false _ A4.out).mono ?_);rintro e w' ⟨rfl,⟨nd,rfl⟩⟩;refine ⟨_,rfl,?_⟩))
 go_ret
 exact ⟨by first|rfl|(simp;done)|(simp [*];done),by repeat (first|exact Drawn0.refl _|apply Drawn0.step)⟩

-- NOT PRINTED: function 67 (impl_Item)

/-! ### impl_Cat_edition: function 43 -/
theorem pred68 (a1 : Int) (B : Nat) (w : World) (hB : B < w.heap.size) (hcell : w.cell? ⟨B, 0, none⟩ = some (.int .i64 a1)) (W : World) (x : S36) (hb : Below w.heap.size w W) :
  Calls Try.prog 68 (#[.agg #[.int .i64 x.f0, .string x.f1, .int .i64 x.f2, .string x.f3]] ++ #[.pointer (some ⟨B, 0, none⟩)]) W fun e w' => e = .returned (.bool (x.f2 == a1)) ∧ Below w.heap.size w w' := by
 have hc : W.cell? ⟨B,0,none⟩ = some (.int .i64 a1):=(hb.cell (p:=⟨B,0,none⟩) hB).trans hcell;have hBW : B < W.heap.size := Nat.lt_of_lt_of_le hB hb.size;have hne : B ≠ W.heap.size := by omega
 show Calls Try.prog 68 #[.agg #[.int .i64 x.f0,.string x.f1,.int .i64 x.f2,.string x.f3],.pointer (some ⟨B,0,none⟩)] W _
 go_enter Try.func68, Try.ntmps68
 go_wp2
 all_goals (go_ret; exact ⟨by simp_all, hb.alloc hb.size _⟩)
def impl_Cat_edition.f (a0_0 : Int) (l0_1 : List (S36)) (a1 : Int) : Option (Int) := some (idxFrom (fun x => x.f2 == a1) l0_1 0)
set_option maxHeartbeats 4000000 in
theorem impl_Cat_edition.calls (a0_0 : Int) (A0_1 : Option Addr) (c0_1 : Nat) (l0_1 : List (S36)) (a1 : Int) (r : Int) (w : World) (hr0_1 : Kd.C k36 w A0_1 l0_1.length l0_1) (hc0_1 : l0_1.length ≤ c0_1) (h : impl_Cat_edition.f a0_0 l0_1 a1 = some r) :
  Calls Try.prog 43 #[.agg #[.int .i64 a0_0, .slice A0_1 l0_1.length c0_1], .int .i64 a1] w fun e w' => e = .returned (.int .i64 r) ∧ Below w.heap.size w w' := by
 have eg : ∀ args w,(callFunc 68 args).run Try.prog w = .ok (.enter 68 args) w:=enters_of Try.func68 (by kernel_rfl) rfl;obtain rfl := Option.some.inj h;clear h;have hcon : ∀ W : World,Below w.heap.size w W → ∀ B : Nat,B < W.heap.size → W.cell? ⟨B,0,none⟩ = some (.int .i64 a1) →
   Calls Try.prog 67 #[.slice A0_1 l0_1.length c0_1, .func (.func 68) #[] #[.pointer (some ⟨B, 0, none⟩)]] W fun e w' => e = .returned (.int .i64 (idxFrom (fun x => x.f2 == a1) l0_1 0)) ∧ Below w.heap.size w w' :=
  fun W hW B hB hc => (idx67 (fun x => x.f2 == a1) 68 #[.pointer (some ⟨B,0,none⟩)] eg A0_1 c0_1 l0_1 W (Kd.C_below hr0_1 hW) (pred68 a1 B W hB hc)).mono fun e w' ⟨he,hb⟩ => ⟨he,hW.trans (hb.mono hW.size)⟩
 have HC := z_a hcon;clear hcon eg hr0_1 hc0_1;generalize idxFrom (fun x => x.f2 == a1) l0_1 0 = r at HC ⊢
 go_enter Try.func43, Try.ntmps43
 go_wp2_with (go_at_call 67;refine (HC.out _ (by repeat (first|exact Below.refl _ _|apply y_h|apply y_j|apply y_i)) _ (by simp) (by simp)).mono ?_;rintro e w' ⟨rfl,hb'⟩)
 go_ret
 exact ⟨rfl, hb'⟩

end Go.Proofs.Ytbpmfdpbgcpjeaa.PFnCatBytes
