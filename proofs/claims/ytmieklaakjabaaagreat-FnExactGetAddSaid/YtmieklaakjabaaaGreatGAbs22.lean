import Derived.Test.YtmieklaakjabaaaGreatGAbs21
set_option linter.unusedSimpArgs false
set_option linter.unusedVariables false
namespace Go.Abs
open Go Go.RowKit
variable {P : Program}
def PV.litB : PV → Bool
  | .lit _ => true
  | .sl _ => false
  | .own _ _ => true
theorem PV.litB_iff {x : PV} (h : x.litB = true) : x.noSl := by cases x <;> first | trivial | cases h
def AC.nsB : AC → Bool
  | .p x => x.litB
  | .fp _ _ => false
  | _ => true
theorem AC.nsB_iff {x : AC} (h : x.nsB = true) : x.noSl := by cases x <;> first | exact PV.litB_iff h | trivial | cases h
mutual
def AV.nsB : AV → Bool
  | .one c => c.nsB
  | .agg cs => cs.all AC.nsB
  | .tup vs => AV.nsBs vs
  | .clo _ _ => false
  | .unk => true
def AV.nsBs : List AV → Bool
  | [] => true
  | v :: vs => AV.nsB v && AV.nsBs vs
end
mutual
theorem AV.nsB_iff : ∀ {v : AV}, v.nsB = true → v.NoSl
  | .one c, h => .one (AC.nsB_iff (by simpa [AV.nsB] using h))
  | .agg cs, h => .agg fun c hc => AC.nsB_iff (List.all_eq_true.1 (by simpa only [AV.nsB] using h) c hc)
  | .tup vs, h => .tup (AV.nsBs_iff (by simpa only [AV.nsB] using h))
  | .clo _ _, h => by simp [AV.nsB] at h
  | .unk, _ => .unk
theorem AV.nsBs_iff : ∀ {vs : List AV}, AV.nsBs vs = true → ∀ v ∈ vs, v.NoSl
  | [], _, v, hv => by cases hv
  | x :: xs, h, v, hv => by
    simp only [AV.nsBs, Bool.and_eq_true] at h
    rcases List.mem_cons.1 hv with q | q
    · rw [q]; exact AV.nsB_iff h.1
    · exact AV.nsBs_iff h.2 v q
end
def Blk.nsB : Blk → Bool
  | .arr _ els => els.all fun el => el.all PV.litB
  | .box cs => cs.all AC.nsB
theorem Blk.nsB_iff {k : Blk} (h : k.nsB = true) : k.noSl := by
  cases k with
  | arr sz els => exact fun el hel x hx => PV.litB_iff (List.all_eq_true.1 (List.all_eq_true.1 h el hel) x hx)
  | box cs => exact fun c hc => AC.nsB_iff (List.all_eq_true.1 h c hc)
/-- Is what was borrowed ours again? -/
def givesBack (bor : List Nat) (r : AV) (out : List Blk) : Bool := match bor with
  | [] => true
  | _ => match r.nsB with
    | true => out.all Blk.nsB
    | false => false
/-- A call, run where it stands. -/
theorem CallS.inl (M : FuncId → Bool) {f : FuncId} {fn : Func} {c : Code} {cargs : List AV} {lent : List Blk} {bor : List Nat} {own : Option Tmp} {nl nL : Nat} {K : AV → List Blk → Bool → Prop} {KE : Nat → Nat → List (List PV) → Prop} (hc : Callable P f) (hf : P.funcs[f]? = some fn) (hb : fn.body = some c) (hn : Nat.ble cargs.length fn.ntmps = true)
    (h : lenN lent fun nl0 => vcode P M c (vfin P fn.results.toList fun r out => chk (Nat.ble out.length (nL + 8)) (fA r fun r => fBl out fun out => match givesBack bor r out with
      | true => K r out false
      | false => chk (bor.all (Nat.ble nl)) (K r out true))) nl0 ⟨fn.ntmps, ⟨nl0, none, []⟩, argT 0 cargs, lentB 0 lent⟩) (hno : own = none := by rfl) : CallS P f cargs lent bor own nl nL K KE := by
  obtain ⟨r, out, h1, hg⟩ := good_v M hf hb hn h
  obtain ⟨h2, h3⟩ := chk_iff.1 h1
  rw [fA_iff, fBl_iff] at h3
  split at h3
  · rename_i hgb
    refine .mk r out false hc hg (Nat.le_of_ble_eq_true h2) ?_ h3 hno
    unfold givesBack at hgb
    split at hgb
    · exact .inl rfl
    · split at hgb
      · rename_i hr; exact .inr ⟨AV.nsB_iff hr, fun k hk => Blk.nsB_iff (List.all_eq_true.1 hgb k hk)⟩
      · cases hgb
  · obtain ⟨h4, h5⟩ := chk_iff.1 h3
    exact .mk r out true hc hg (Nat.le_of_ble_eq_true h2) (fun b hb => Nat.le_of_ble_eq_true (List.all_eq_true.1 h4 b hb)) h5 hno
/-- A loop, one round more. -/
theorem VLoop.step (M : FuncId → Bool) {c : Code} {Q : Exit → Nat → St → Prop} {n : Nat} {s : St} (h : vcode P M c (andThen (fun n s => VLoop P c Q n s) Q) n s) : VLoop P c Q n s :=
  ⟨aloop_step ((vcode_sound c h).mono (andThen_mono fun n s q => q.1))⟩
/-- A region that draws; what an operation may write beside its own slot: blocks of other operations' slots (Wr), old blocks (Wa). -/
def relW (n : Nat) (Wr Wa : List (Nat × List Nat)) : List (Nat × List Nat) := Wr.map (fun q => (q.1, q.2.map (fun i => n + 8 * i) ++ (lk Wa q.1).getD [])) ++ Wa
theorem VDraw.goR {P : Program} {M : FuncId → Bool} {ops : Array Oper} {st : St} {id : Nat} {Q : Exit → Nat → St → Prop} {n : Nat} (an loud : List Nat) (Wr Wa : List (Nat × List Nat)) (hm : P.follows .mixedOrders = true) (hR : regB ops ⟨n, an, loud, relW n Wr Wa⟩ = true)
    (h : vdraw P M ops ⟨n, an, loud, relW n Wr Wa⟩ st (Q .normal (n + 8 * ops.toList.length)) 0 ops.toList []) (hO : ownB ops st = true := by rfl) : VDraw P M id ops Q n st := VDraw.go ⟨n, an, loud, relW n Wr Wa⟩ rfl hm hR h hO
end Go.Abs
