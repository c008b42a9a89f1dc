import Derived.Test.YtbpmfdpbgcpjeaaGCat13
import Derived.ArgAppend
import Derived.Laws.Slices
import Derived.Laws.OwnMore
import Derived.WalkKit
import Derived.RowKit3
import Derived.Shelf.RegionOpenPlain
import Derived.Test.YtbpmfdpbgcpjeaaGCat17
import Derived.Test.YtbpmfdpbgcpjeaaGLaw9
import Derived.Test.YtbpmfdpbgcpjeaaGAbs26
set_option linter.unusedSimpArgs false
set_option linter.unusedVariables false
namespace Go.Abs.C
open Go Go.Abs Go.Proofs Go.RowKit
structure Keep0 (p : Prop) : Prop where
  mk ::
  out : p
section
variable {P : Program} {ops : Array Oper} {o : Oper} {a : Act} {Q : Exit → Act → World → Prop} {Kc : Act → World → Prop} {W : World}
theorem app_step (hw : Region.wanted o (yielded ops a.tmps) = true) (s x : Operand) (t : TypeId) (ho : o.op = .call { callee := .builtin .append, args := #[s, x], argTypes := #[t, t] })
    {vs vx r : Value} {W1 : World} (hs : a.eval s = vs) (hx : a.eval x = vx) (hr : ∀ ty, (Builtin.append_ #[t, t] ty #[vs, vx]).run P W = .ok r W1) (h : Kc (a.put o.dst r) W1) :
    if Region.wanted o (yielded ops a.tmps) = true then Oper.wp P o a W Kc Q else Kc (a.put o.dst undef) W := by
  rw [if_pos hw]
  unfold Oper.wp execOp
  simp only [ho, resolve, invoke, builtin, Sem.run_bind, Sem.run_pure, Result.andThen_ok, List.map_toArray, List.map_cons, List.map_nil, hs, hx, hr]
  exact h
end
/-- The cells behind element i of a row, moved down by one element. -/
def newsOf (cur : Array Value) (n i : Nat) : List Value := (cur.toList.drop ((i + 1) * 4)).take ((n - (i + 1)) * 4)
theorem newsOf_len {cur : Array Value} {n i : Nat} (h : n * 4 ≤ cur.size) (hi : i < n) : (newsOf cur n i).length = (n - (i + 1)) * 4 := by
  unfold newsOf
  rw [List.length_take, List.length_drop, Array.length_toList]
  omega
theorem newsOf_get {cur : Array Value} {n i q : Nat} (h : n * 4 ≤ cur.size) (hq : q < (n - (i + 1)) * 4) : (newsOf cur n i)[q]? = cur[(i + 1) * 4 + q]? := by
  unfold newsOf
  rw [List.getElem?_take, if_pos hq, List.getElem?_drop, Array.getElem?_toList]
theorem app_run (P : Program) (t e : TypeId) (inf : TypeInfo) (ht : P.underlying t = some (.slice e)) (hi : P.info? e = some inf) (hsz : inf.size = 4) (g n c c2 i : Nat) (bt : TypeId) (fr : Nat × Nat) (cur : Array Value) (W : World)
    (hh : W.heap[g]? = some (.cells cur bt fr)) (hfz : ∀ o, o < cur.size → (fr.1 ≤ o && o < fr.2) = false) (hs : n * 4 ≤ cur.size) (hone : ∀ v ∈ cur, v.oneCell' = true) (hin : i < n) (hnc : n ≤ c) (ty : TypeId) :
    (Builtin.append_ #[t, t] ty #[.slice (some ⟨g, 0, none⟩) i c, .slice (if c = i + 1 then some ⟨g, 0, none⟩ else some ⟨g, (i + 1) * 4, none⟩) (n - (i + 1)) c2]).run P W = .ok (.slice (some ⟨g, 0, none⟩) (n - 1) c) (W.setCells g (i * 4) (newsOf cur n i)) := by
  have hl := newsOf_len hs hin
  obtain ⟨ad, ead, hcell⟩ : ∃ ad, (if c = i + 1 then some ⟨g, 0, none⟩ else some ⟨g, (i + 1) * 4, none⟩ : Option Addr) = some ad ∧ ∀ j u, (newsOf cur n i)[j]? = some u → W.cell? (ad.add j) = some u := by
    by_cases hck : c = i + 1
    · rw [if_pos hck]
      refine ⟨_, rfl, fun j u hu => ?_⟩
      have h0 : newsOf cur n i = [] := List.eq_nil_of_length_eq_zero (by rw [hl]; omega)
      rw [h0] at hu; simp at hu
    · rw [if_neg hck]
      refine ⟨_, rfl, fun j u hu => ?_⟩
      have hj : j < (newsOf cur n i).length := (List.getElem?_eq_some_iff.1 hu).1
      rw [newsOf_get hs (by omega)] at hu
      rw [Addr.add_lit, World.cell_of hh]
      exact hu
  rw [ead]
  have hrun := run_append_room_cells (P := P) W t ty e inf ht hi g 0 i c ad (n - (i + 1)) c2 (newsOf cur n i) (by rw [hl, hsz]) hcell
    (fun u hu => by
      obtain ⟨q, hq⟩ := List.mem_iff_getElem?.1 hu
      have hj : q < (newsOf cur n i).length := (List.getElem?_eq_some_iff.1 hq).1
      rw [newsOf_get hs (by omega)] at hq
      exact hone u (Array.mem_of_getElem? hq)) (by omega)
    (fun j hj => by rw [hsz, World.cell_of hh, Array.getElem?_eq_getElem (by omega)]; rfl) (fun j hj => by rw [hsz, World.frozen_of hh]; exact hfz _ (by omega))
  rw [hsz, Nat.zero_add, show i + (n - (i + 1)) = n - 1 by omega] at hrun
  exact hrun
set_option maxHeartbeats 4000000 in
set_option maxRecDepth 1000000 in
theorem del_raw (g n c i : Nat) (bt : TypeId) (fr : Nat × Nat) (cur : Array Value) (w : World)
    (hh : w.heap[g]? = some (.cells cur bt fr)) (hfz : ∀ o, o < cur.size → (fr.1 ≤ o && o < fr.2) = false) (hs : n * 4 ≤ cur.size) (hone : ∀ v ∈ cur, v.oneCell' = true) (hi : i < n) (hnc : n ≤ c) (hmax : n ≤ 9223372036854775000) :
    Calls Try.prog 75 #[.slice (some ⟨g, 0, none⟩) n c, .int .i64 i, .int .i64 ((i + 1 : Nat) : Int)] w fun e w' => e = .returned (.slice (some ⟨g, 0, none⟩) (n - 1) c) ∧
      ∃ w0 : World, w0.heap = w.heap ∧ w0.os = w.os ∧ w0.tape = w.tape ∧ w0.output = w.output ∧ w' = (w0.setCells g (i * 4) (newsOf cur n i)).setCells g ((n - 1) * 4) [.int .i64 0, .string ⟨#[]⟩, .int .i64 0, .string ⟨#[]⟩] := by
  have hu27 := Try.underlying27
  have mixed : Try.prog.follows .mixedOrders = true := by kernel_rfl
  have hi36 : (Try.prog.info? 36).map (·.size) = some 4 := by kernel_rfl
  obtain ⟨inf, hinf, hsz⟩ := Option.map_eq_some_iff.1 hi36
  have happ : ∀ (W : World), W.heap = w.heap → ∀ (j c2 : Nat), j = i + 1 → ∀ ty, (Builtin.append_ #[27, 27] ty #[.slice (some ⟨g, 0, none⟩) i c, .slice (if c = j then some ⟨g, 0, none⟩ else some ⟨g, j * 4, none⟩) (n - j) c2]).run Try.prog W = .ok (.slice (some ⟨g, 0, none⟩) (n - 1) c) (W.setCells g (i * 4) (newsOf cur n i)) := by
    rintro W hW j c2 rfl ty
    exact app_run Try.prog 27 36 inf hu27 hinf hsz g n c c2 i bt fr cur W (by rw [hW]; exact hh) hfz hs hone hi hnc ty
  have hcl : ∀ (W : World), W.heap = w.heap → ∀ ty c3, (Builtin.clear_ #[27] ty #[.slice (some ⟨g, (n - 1) * 4, none⟩) (n - (n - 1)) c3]).run Try.prog (W.setCells g (i * 4) (newsOf cur n i)) = .ok (.tuple #[]) ((W.setCells g (i * 4) (newsOf cur n i)).setCells g ((n - 1) * 4) [.int .i64 0, .string ⟨#[]⟩, .int .i64 0, .string ⟨#[]⟩]) := by
    intro W hW ty c3
    have e1 : n - (n - 1) = 1 := by omega
    have hblk := setCells_heap g bt fr (newsOf cur n i) (i * 4) cur W (by rw [hW]; exact hh)
    have hsp : (spl cur (i * 4) (newsOf cur n i)).size = cur.size := spl_size ..
    have hst := run_storeCells_cells (P := Try.prog) g ((n - 1) * 4) [.int .i64 0, .string ⟨#[]⟩, .int .i64 0, .string ⟨#[]⟩] 0 (W.setCells g (i * 4) (newsOf cur n i)) (by
      intro j hj
      have hj' : j < 4 := by simpa using hj
      rw [World.cell_of hblk, Array.getElem?_eq_getElem (by omega)]
      rfl) (by intro j hj; have hj' : j < 4 := by simpa using hj
               rw [World.frozen_of hblk]; exact hfz _ (by omega)) (by intro v hv; simp at hv; rcases hv with rfl | rfl | rfl | rfl <;> rfl)
    rw [Nat.add_zero] at hst
    rw [e1]
    have hz : ∀ w, (zeroValue 36).run Try.prog w = .ok (.agg #[.int .i64 0, .string ⟨#[]⟩, .int .i64 0, .string ⟨#[]⟩]) w := fun w => by kernel_rfl
    have hzc : (Builtin.zeroCells (Value.agg #[.int .i64 0, .string ⟨#[]⟩, .int .i64 0, .string ⟨#[]⟩]).cells 1).toList = [.int .i64 0, .string ⟨#[]⟩, .int .i64 0, .string ⟨#[]⟩] := by
      simp only [Builtin.zeroCells, Value.cells, Array.toList_map, Array.toList_range]
      rfl
    simp [Builtin.clear_, run_underlying hu27, hz, hzc, hst]
  obtain ⟨j, hj⟩ : ∃ j : Nat, j = i + 1 := ⟨_, rfl⟩
  have hne : ¬ i = j := by omega
  have hij : i ≤ j := by omega
  have hjn : j ≤ n := by omega
  have hic : i ≤ c := by omega
  have hjc : j ≤ c := by omega
  have HJ := Keep0.mk hj
  have HA := Keep0.mk happ
  have HC := Keep0.mk hcl
  rw [← hj]
  have HN := Keep0.mk hnc
  clear hj hs hone hfz hh hi happ hcl
  go_enter Try.func75, Try.ntmps75
  go_wp2_with fail
  go_region_law_o (refine app_step (vs := .slice (some ⟨g, 0, none⟩) i c) (vx := .slice (if c = j then some ⟨g, 0, none⟩ else some ⟨g, j * 4, none⟩) (n - j) (c - j)) (by rfl) (.tmp 22) (.tmp 25) 27 rfl (by simp [Act.eval, Act.put]) (by simp [Act.eval, Act.put]) (HA.out (World.drew w) rfl j (c - j) HJ.out) ?_)
  have hn1 : n - 1 ≤ n := by omega
  have hn2 : n - 1 ≤ c := by omega
  have HW : ∀ ty c3, (Builtin.clear_ #[27] ty #[.slice (some ⟨g, (n - 1) * 4, none⟩) (n - (n - 1)) c3]).run Try.prog (w.drew.setCells g (i * 4) (newsOf cur n i)) = .ok (.tuple #[]) ((w.drew.setCells g (i * 4) (newsOf cur n i)).setCells g ((n - 1) * 4) [.int .i64 0, .string ⟨#[]⟩, .int .i64 0, .string ⟨#[]⟩]) := HC.out w.drew rfl
  clear HC HA hi36 hinf hsz
  go_wp2
  all_goals
    go_ret
    first
    | exact ⟨rfl, w.drew, rfl, rfl, rfl, rfl, rfl⟩
    | (have e : c = j := by assumption
       exact ⟨by rw [e], w.drew, rfl, rfl, rfl, rfl, rfl⟩)
set_option maxHeartbeats 16000000 in
set_option maxRecDepth 100000 in
theorem good_del (els : List (List PV)) (n i : Nat) (hn : n = els.length) (hi : i < n) (hb : n ≤ 1000000) :
    Good Try.prog 75 [.one (.hs 0 0 n), vint i, vint ((i + 1 : Nat) : Int)] [.arr 4 els] (.one (.hs 0 0 (n - 1))) [.arr 4 (els.eraseIdx i)] := by
  intro w vs σ S hl hr hin hlent hap hS hG
  rcases vs with ⟨l⟩
  rcases l with _ | ⟨v0, _ | ⟨v1, _ | ⟨v2, _ | ⟨v3, l⟩⟩⟩⟩
  · cases hl
  · cases hl
  · cases hl
  · have h0 := hr 0 _ v0 rfl rfl
    have h1 := lit_inv (hr 1 _ v1 rfl rfl) rfl
    have h2 := lit_inv (hr 2 _ v2 rfl rfl) rfl
    subst h1 h2
    obtain ⟨⟨cur, ty, fr, g1, g0, g2, g3, g6, g4, g5⟩, _, hnS⟩ := hlent 0 _ rfl
    cases h0 with | one h0 =>
    cases h0 with
    | hs0 => omega
    | hs _ _ _ cap hc hnc =>
    have hcap : n * 4 ≤ cur.size := by rw [g2, g6]; exact Nat.mul_le_mul_right _ (by omega)
    rw [Nat.zero_mul]
    refine Calls.mono (del_raw (σ 0).k n cap i ty fr cur w g1 g0 hcap g3 hi hnc (by omega)) ?_
    rintro e w' ⟨rfl, w0, e1, e2, e3, e4, rfl⟩
    have hln := newsOf_len hcap hi
    have b1 := setCells_heap (σ 0).k ty fr (newsOf cur n i) (i * 4) cur w0 (by rw [e1]; exact g1)
    have s1 : (spl cur (i * 4) (newsOf cur n i)).size = cur.size := spl_size ..
    have b2 := setCells_heap (σ 0).k ty fr [.int .i64 0, .string ⟨#[]⟩, .int .i64 0, .string ⟨#[]⟩] ((n - 1) * 4) _ _ b1
    have hother : ∀ k, k ≠ (σ 0).k → ((w0.setCells (σ 0).k (i * 4) (newsOf cur n i)).setCells (σ 0).k ((n - 1) * 4) [.int .i64 0, .string ⟨#[]⟩, .int .i64 0, .string ⟨#[]⟩]).heap[k]? = w.heap[k]? := fun k hk => by
      rw [setCells_other _ _ _ _ _ hk, setCells_other _ _ _ _ _ hk, e1]
    have hsize : ((w0.setCells (σ 0).k (i * 4) (newsOf cur n i)).setCells (σ 0).k ((n - 1) * 4) [.int .i64 0, .string ⟨#[]⟩, .int .i64 0, .string ⟨#[]⟩]).heap.size = w.heap.size := by
      rw [setCells_size, setCells_size, e1]
    have o1 := setCells_os (σ 0).k (newsOf cur n i) (i * 4) w0
    have o2 := setCells_os (σ 0).k [.int .i64 0, .string ⟨#[]⟩, .int .i64 0, .string ⟨#[]⟩] ((n - 1) * 4) (w0.setCells (σ 0).k (i * 4) (newsOf cur n i))
    have hfit1 : i * 4 + (newsOf cur n i).length ≤ cur.size := by omega
    have hfit2 : (n - 1) * 4 + 4 ≤ (spl cur (i * 4) (newsOf cur n i)).size := by omega
    refine ⟨_, rfl, σ, S, .one ?_, .one (Nat.zero_lt_one), Nat.le_refl _, ?_, fun b b' q1 q2 q3 => by simp at q1 q2; omega, fun b q => rfl, fun b q1 q2 => absurd q2 (by simp only [List.length_cons, List.length_nil] at q1 ⊢; omega), fun k hk => hsize ▸ hS k hk, fun k hk _ => hk, (o2.1.trans o1.1).trans e2, (o2.2.1.trans o1.2.1).trans e3, (o2.2.2.trans o1.2.2).trans e4, Nat.le_of_eq hsize.symm, fun k hk hne => hother k fun q => hne 0 Nat.zero_lt_one q.symm⟩
    · have := RepC.hs (w := ((w0.setCells (σ 0).k (i * 4) (newsOf cur n i)).setCells (σ 0).k ((n - 1) * 4) [.int .i64 0, .string ⟨#[]⟩, .int .i64 0, .string ⟨#[]⟩])) (S := S) (σ := σ) 0 0 (n - 1) cap hc (by omega)
      rwa [Nat.zero_mul] at this
    · intro b blk hb
      have hb0 : b = 0 := by
        rcases b with _ | b
        · rfl
        · simp at hb
      subst hb0
      cases hb
      refine ⟨⟨_, ty, fr, b2, fun o ho => ?_, ?_, fun v hv => ?_, g6, ?_, fun m el hm => ?_⟩, trivial, hnS⟩
      · rw [spl_size, s1] at ho; exact g0 o ho
      · rw [spl_size, s1]; exact g2
      · obtain ⟨m, hm⟩ := Array.mem_iff_getElem?.1 hv
        rw [spl_get _ _ _ _ hfit2] at hm
        split at hm
        · have := List.mem_of_getElem? hm
          simp at this
          rcases this with rfl | rfl | rfl | rfl <;> rfl
        · rw [spl_get _ _ _ _ hfit1] at hm
          split at hm
          · rename_i q
            rw [newsOf_get hcap (by omega)] at hm
            exact g3 v (Array.mem_of_getElem? hm)
          · exact g3 v (Array.mem_of_getElem? hm)
      · rw [List.length_eraseIdx_of_lt (by omega)]; omega
      · have hml : m < n - 1 := by
          have := (List.getElem?_eq_some_iff.1 hm).1
          rw [List.length_eraseIdx_of_lt (by omega)] at this
          omega
        rw [List.getElem?_eraseIdx] at hm
        by_cases hmi : m < i
        · rw [if_pos hmi] at hm
          refine ⟨(g5 m el hm).1, fun j x hx => ?_⟩
          obtain ⟨v, q1, q2⟩ := (g5 m el hm).2 j x hx
          have hj : j < 4 := by have := (List.getElem?_eq_some_iff.1 hx).1; rw [(g5 m el hm).1, g6] at this; exact this
          rw [g6] at q1 ⊢
          refine ⟨v, ?_, q2.mono (fun k hk => hother k fun q => hnS (q ▸ hk)) (fun _ q => q)⟩
          rw [spl_get _ _ _ _ hfit2, if_neg (by omega), spl_get _ _ _ _ hfit1, if_neg (by omega)]
          exact q1
        · rw [if_neg hmi] at hm
          refine ⟨(g5 (m + 1) el hm).1, fun j x hx => ?_⟩
          obtain ⟨v, q1, q2⟩ := (g5 (m + 1) el hm).2 j x hx
          have hj : j < 4 := by have := (List.getElem?_eq_some_iff.1 hx).1; rw [(g5 (m + 1) el hm).1, g6] at this; exact this
          rw [g6] at q1 ⊢
          refine ⟨v, ?_, q2.mono (fun k hk => hother k fun q => hnS (q ▸ hk)) (fun _ q => q)⟩
          rw [spl_get _ _ _ _ hfit2, if_neg (by omega), spl_get _ _ _ _ hfit1, if_pos (by omega), newsOf_get hcap (by omega), show (i + 1) * 4 + (m * 4 + j - i * 4) = (m + 1) * 4 + j by omega]
          exact q1
  · cases hl
end Go.Abs.C

set_option linter.unusedSimpArgs false
set_option linter.unusedVariables false
namespace Go.Abs.C
open Go Go.Abs Go.Proofs Go.RowKit
attribute [local irreducible] IntKind.wrap
theorem take_all {l : Is} {n : Nat} (h : n = l.length) : List.take n (List.drop 0 (l.map encItem)) = l.map encItem := by
  subst h
  rw [List.drop_zero, List.take_of_length_le (by rw [List.length_map]; exact Nat.le_refl _)]
theorem len_all {l : Is} {n : Nat} (h : n = l.length) : 0 + n ≤ (l.map encItem).length := by rw [List.length_map]; omega
def dM : FuncId → Bool := fun f => [75].contains f
theorem delAt_erase (l : Is) (k : Nat) : (l.map encItem).eraseIdx k = (delAt l k).map encItem := by
  unfold delAt
  rw [List.eraseIdx_eq_take_drop_succ, List.map_append, List.map_take, List.map_drop]
set_option maxHeartbeats 16000000 in
set_option maxRecDepth 100000 in
theorem takeI_ok (l : Is) (last h : Int) (n : ByteArray) (hl8 : l.length ≤ 8) : Good Try.prog 55 [cat l last, vint h, vstr n] [] (putR (takeC l last h n)) (putB (takeC l last h n)) := by
  refine good_e dM Try.func55 rfl rfl ?_
  conv => whnf
  refine .mk _ _ false Try.call74 (clone_ok l last (by omega)) (Nat.le_of_ble_eq_true rfl) (.inl rfl) ?_
  conv => whnf
  refine .mk _ _ false Try.call49 (find_ok l last h n (by omega)) (Nat.le_of_ble_eq_true rfl) (.inl rfl) ?_
  conv => whnf
  generalize hT : takeC l last h n = T
  unfold takeC at hT
  split
  · rename_i q
    rw [q] at hT
    try simp only at hT
    subst hT
    conv => whnf
    refine ⟨⟨⟨by decide +kernel, Nat.le_of_ble_eq_true rfl⟩, trivial⟩, ?_⟩
    conv => whnf
    exact ⟨rfl, rfl⟩
  · rename_i q
    rw [q] at hT
    try simp only at hT
    subst hT
    have q' := of_decide_eq_false q
    have hfp := findI_pos (p := fun x => same x h n) (l := l) (by omega)
    have hge : 0 ≤ findI (fun x => same x h n) l := by omega
    generalize findI (fun x => same x h n) l = K at hfp hge ⊢
    obtain ⟨k, rfl⟩ := Int.eq_ofNat_of_zero_le hge
    rw [Int.toNat_natCast] at hfp ⊢
    have hw : IntKind.i64.wrap ((k : Int) + 1) = ((k + 1 : Nat) : Int) := by rw [wi _ (by omega) (by omega)]; omega
    conv => whnf
    rw [hw]
    have hg := good_del (l.map encItem) l.length k (List.length_map ..).symm hfp.1 (by omega)
    rw [delAt_erase] at hg
    refine .mk _ _ false Try.call75 hg (Nat.le_of_ble_eq_true rfl) (.inl rfl) ?_
    conv => whnf
    refine ⟨⟨rfl, rfl, rfl⟩, (by rw [List.length_map, delAt_len hfp.1]; omega), ?_⟩
    rw [show List.take (l.length - 1) (List.drop 0 ((delAt l k).map encItem)) = (delAt l k).map encItem from take_all (by rw [delAt_len hfp.1])]
    conv => whnf
    refine ⟨(fun q => by cases q), appB (show 0 + ((delAt l k).map encItem).length ≤ 1100000 by rw [List.length_map, delAt_len hfp.1]; omega), enc_len _, ?_⟩
    conv => whnf
    refine ⟨⟨⟨by decide +kernel, Nat.le_of_ble_eq_true rfl⟩, trivial⟩, ?_⟩
    conv => whnf
    exact ⟨(show AV.tup [.agg [.p (.lit (.int .i64 last)), .hs 0 0 (0 + ((delAt l k).map encItem).length)], vint 0] = putR (delAt l k, last, 0) from by rw [List.length_map, Nat.zero_add]), rfl⟩
set_option maxHeartbeats 16000000 in
set_option maxRecDepth 100000 in
theorem implTake_bad (l : Is) (last h : Int) (n : ByteArray) (hl : l.length < 1100000) (hs : ∀ x ∈ l, x.b.size ≤ 9223372036854775807) (hp : catOk l last = false) : Good Try.prog 27 [cat l last, vint h, vstr n] [] badC [] := by
  refine good_e noM Try.func27 rfl rfl ?_
  conv => whnf
  refine .mk _ _ false Try.call16 (implOk_ok l last hl hs) (Nat.le_of_ble_eq_true rfl) (.inl rfl) ?_
  rw [hp]
  conv => whnf
  refine ⟨⟨⟨by decide +kernel, Nat.le_of_ble_eq_true rfl⟩, trivial⟩, ?_⟩
  conv => whnf
  exact ⟨rfl, rfl⟩
set_option maxHeartbeats 16000000 in
set_option maxRecDepth 100000 in
theorem specTake_bad (l : Is) (last h : Int) (n : ByteArray) (hl : l.length < 1100000) (hs : ∀ x ∈ l, x.b.size ≤ 9223372036854775807) (hp : catOk l last = false) : Good Try.prog 26 [cat l last, vint h, vstr n] [] badC [] := by
  refine good_e noM Try.func26 rfl rfl ?_
  conv => whnf
  refine .mk _ _ false Try.call14 (specOk_ok l last hl hs) (Nat.le_of_ble_eq_true rfl) (.inl rfl) ?_
  rw [hp]
  conv => whnf
  refine ⟨⟨⟨by decide +kernel, Nat.le_of_ble_eq_true rfl⟩, trivial⟩, ?_⟩
  conv => whnf
  exact ⟨rfl, rfl⟩
set_option maxHeartbeats 16000000 in
set_option maxRecDepth 100000 in
theorem implTake_ok (l : Is) (last h : Int) (n : ByteArray) (hs : ∀ x ∈ l, x.b.size ≤ 9223372036854775807) (p : CatP l last) : Good Try.prog 27 [cat l last, vint h, vstr n] [] (putR (takeC l last h n)) (putB (takeC l last h n)) := by
  have hl8 := p.len
  refine good_e noM Try.func27 rfl rfl ?_
  conv => whnf
  refine .mk _ _ false Try.call16 (implOk_ok l last (by omega) hs) (Nat.le_of_ble_eq_true rfl) (.inl rfl) ?_
  rw [catOk_true p]
  conv => whnf
  refine .mk _ _ false Try.call55 (takeI_ok l last h n hl8) (Nat.le_of_ble_eq_true rfl) (.inl rfl) ?_
  conv => whnf
  refine ⟨⟨⟨by decide +kernel, Nat.le_of_ble_eq_true rfl⟩, trivial⟩, ?_⟩
  conv => whnf
  exact ⟨rfl, rfl⟩
end Go.Abs.C

set_option linter.unusedSimpArgs false
set_option linter.unusedVariables false
namespace Go.Abs.C
open Go Go.Abs Go.Proofs Go.RowKit
attribute [local irreducible] IntKind.wrap
set_option maxHeartbeats 16000000 in
set_option maxRecDepth 100000 in
theorem drawTake_ok (bs : List Int) (hb : ∀ x ∈ bs, 0 ≤ x ∧ x ≤ 255) (hl : bs.length ≤ 9223372036854775807) :
    ∃ r out, (∃ (h : Int) (n : ByteArray), n.size ≤ 1000 ∧ DrawR r [vint h, vstr n] out) ∧ Good Try.prog 34 [.one (.p (.sl (bs.map encU)))] [] r out := by
  refine good_v noM Try.func34 rfl rfl ?_
  conv => whnf
  obtain ⟨_, _, ⟨bs', hb', rfl, rfl⟩, hg⟩ := l1Open_ok bs hb hl
  refine .mk _ _ true Try.call50 hg (Nat.le_of_ble_eq_true rfl) (fun b hb => Nat.zero_le _) ?_
  conv => whnf
  obtain ⟨_, _, h, hg⟩ := l15AnyCat_ok bs' 0 hb' (by omega) (by omega)
  rcases h with ⟨q, hq0, hq1, rfl, rfl⟩ | ⟨l, last, q, n, sm, hn, hq0, hq1, rfl, rfl⟩
  all_goals
    refine .mk _ _ false Try.call51 hg (Nat.le_of_ble_eq_true rfl) (.inl rfl) ?_
    conv => whnf
    obtain ⟨_, _, ⟨v1, hv10, hv11, rfl, rfl⟩, hg1⟩ := pick_ok bs' q 3 hb'.rng hb'.len hq0 (by omega) (by omega) (by omega)
    refine .mk _ _ false Try.call52 hg1 (Nat.le_of_ble_eq_true rfl) (.inl rfl) ?_
    conv => whnf
    refine ⟨Nat.le_refl 5, ?_⟩
    conv => whnf
    obtain ⟨_, _, ⟨s, hs, rfl, rfl⟩, hg2⟩ := of_ok bs' (q + 1) [⟨#[97]⟩, ⟨#[98]⟩, ⟨#[99, 99]⟩, ⟨#[100]⟩, ⟨#[]⟩] hb' (by omega) (by omega) (by decide) (by decide)
    have hs2 : s.size ≤ 1000 := by
      simp only [List.mem_cons, List.not_mem_nil, or_false] at hs
      rcases hs with rfl | rfl | rfl | rfl | rfl <;> decide
    refine .mk _ _ true Try.call58 hg2 (Nat.le_of_ble_eq_true rfl) (fun b hb => by cases List.mem_singleton.1 hb; exact Nat.le_of_ble_eq_true rfl) ?_
    conv => whnf
    refine ⟨⟨⟨by decide +kernel, Nat.le_of_ble_eq_true rfl⟩, trivial⟩, ?_⟩
    conv => whnf
    refine ⟨v1, s, hs2, ?_⟩
    first
    | exact .inl ⟨rfl, rfl⟩
    | exact .inr ⟨l, last, n, sm, hn, rfl, rfl⟩
end Go.Abs.C

set_option linter.unusedSimpArgs false
set_option linter.unusedVariables false
namespace Go.Abs.C
open Go Go.Abs Go.Proofs Go.RowKit
attribute [local irreducible] IntKind.wrap
structure TakF (l : Is) (last h : Int) (n : ByteArray) (k : Nat) : Prop where
  lt : k < l.length
  fk : findI (fun x => same x h n) l = k
  ia_ : (ia l k).a = h
  ib_ : (ia l k).b = n
  gone : findI (fun x => same x h n) (delAt l k) < 0
  ed : findI (fun x => x.c == (ia l k).c) (delAt l k) < 0
  ok : CatP (delAt l k) last
  old : ∀ i, i < (delAt l k).length → ∃ j : Nat, findI (fun x => x.c == (ia (delAt l k) i).c) l = j ∧ ia l j = ia (delAt l k) i
theorem same_iff {x : RItem} {h : Int} {n : ByteArray} : same x h n = true ↔ x.a = h ∧ x.b = n := by
  unfold same
  rw [Bool.and_eq_true, beq_iff_eq, str_eq]
theorem takF {l : Is} {last h : Int} {n : ByteArray} (p : CatP l last) (hf : 0 ≤ findI (fun x => same x h n) l) : TakF l last h n (findI (fun x => same x h n) l).toNat := by
  have hfp := findI_pos hf
  obtain ⟨k, hk⟩ := Int.eq_ofNat_of_zero_le hf
  rw [hk, Int.toNat_natCast] at hfp
  rw [hk, Int.toNat_natCast]
  obtain ⟨e1, e2⟩ := same_iff.1 hfp.2.1
  have hi := ia_delAt hfp.1
  have hlen := delAt_len hfp.1
  have hneg : ∀ {p : RItem → Bool} {l : Is}, (∀ k, k < l.length → p (ia l k) = false) → findI p l < 0 := fun h => by rw [findI_no h]; decide
  refine ⟨hfp.1, hk, e1, e2, hneg fun j hj => ?_, hneg fun j hj => ?_, del_keeps p hfp.1, fun i hil => ?_⟩
  · rw [hi]
    split
    · rename_i q; exact hfp.2.2 j q
    · rename_i q
      have hs := p.sorted (j := k) (i := j + 1) (by omega) (by omega)
      cases q2 : same (ia l (j + 1)) h n with
      | false => rfl
      | true =>
        obtain ⟨f1, f2⟩ := same_iff.1 q2
        rw [f1, f2, ← e1, ← e2, less_irrefl] at hs
        exact absurd hs (by simp)
  · rw [hi, beq_eq_false_iff_ne]
    split
    · rename_i q; exact (p.at_ k hfp.1).new j q
    · rename_i q
      exact fun e => (p.at_ (j + 1) (by omega)).new k (by omega) e.symm
  · rw [hi]
    split
    · rename_i q
      exact ⟨i, edit_self p (by omega), rfl⟩
    · rename_i q
      exact ⟨i + 1, edit_self p (by omega), rfl⟩
end Go.Abs.C

set_option linter.unusedSimpArgs false
set_option linter.unusedVariables false
namespace Go.Abs.C
open Go Go.Abs Go.Proofs Go.RowKit
attribute [local irreducible] IntKind.wrap
set_option maxHeartbeats 16000000 in
set_option maxRecDepth 100000 in
theorem catTake_law (bs : List Int) (hb : ∀ x ∈ bs, 0 ≤ x ∧ x ≤ 255) (hl : bs.length ≤ 9223372036854775807) : ∃ r out, r = vbool true ∧ Good Try.prog 12 [.one (.p (.sl (bs.map encU)))] [] r out := by
  refine good_v noM Try.func12 rfl rfl ?_
  conv => whnf
  split
  · conv => whnf
    refine ⟨trivial, ?_⟩
    conv => whnf
    rfl
  conv => whnf
  obtain ⟨_, _, ⟨h, n, hn, hd⟩, hg⟩ := drawTake_ok bs hb hl
  have hsT : ∀ (m : Is) (k : Int), subCat m m.length k = cat m k := fun m k => sub_cat rfl k
  have hn2 : n.size ≤ 9223372036854775807 := Nat.le_trans hn (by decide)
  rcases hd with ⟨rfl, rfl⟩ | ⟨l, last, n0, sm, hn0, rfl, rfl⟩
  · obtain ⟨k0, hk0⟩ : ∃ k0 : Int, k0 = 0 := ⟨0, rfl⟩
    replace hg : Good Try.prog 34 [.one (.p (.sl (bs.map encU)))] [] (.tup [noCatK k0, vint h, vstr n]) [] := by rw [hk0]; exact hg
    refine .mk _ _ false Try.call34 hg (Nat.le_of_ble_eq_true rfl) (.inl rfl) ?_
    conv => whnf
    have p : CatP [] k0 := by rw [hk0]; exact catNil
    obtain ⟨c3, hc3⟩ : ∃ c3 : Int, c3 = 3 := ⟨3, rfl⟩
    have e0 : takeC ([] : Is) k0 h n = ([], k0, c3) := by rw [hc3]; rfl
    have g1 := good_nilK (implTake_ok ([] : Is) k0 h n (fun x hx => by cases hx) p)
    have g2 := good_nilK (specTake_ok ([] : Is) k0 h n (fun x hx => by cases hx) p)
    rw [e0] at g1 g2
    have wh : Good Try.prog 33 [subCat [] 0 k0, subCat [] 0 k0] [] (vbool true) [] := by
      have := whCat_ok [] k0 (by decide)
      rw [← hsT [] k0] at this; exact this
    refine .mk _ _ false Try.call27 g1 (Nat.le_of_ble_eq_true rfl) (.inl rfl) ?_
    conv => whnf
    refine .mk _ _ false Try.call26 g2 (Nat.le_of_ble_eq_true rfl) (.inl rfl) ?_
    conv => whnf
    split
    · rename_i q; simp at q
    conv => whnf
    refine ⟨Nat.le_refl _, ?_⟩
    conv => whnf
    refine ⟨Nat.le_refl _, ?_⟩
    conv => whnf
    refine .mk _ _ false Try.call33 wh (Nat.le_of_ble_eq_true rfl) (.inr ⟨AV.nsB_iff rfl, fun k hk => by cases hk⟩) ?_
    conv => whnf
    split
    case h_2 => rename_i q; subst hc3; simp at q
    conv => whnf
    split
    case h_2 => rename_i q; simp at q
    conv => whnf
    refine ⟨Nat.le_refl _, ?_⟩
    conv => whnf
    refine ⟨Nat.le_refl _, ?_⟩
    conv => whnf
    refine .mk _ _ false Try.call33 wh (Nat.le_of_ble_eq_true rfl) (.inr ⟨AV.nsB_iff rfl, fun k hk => by cases hk⟩) ?_
    conv => whnf
    refine ⟨trivial, ?_⟩
    conv => whnf
    rfl
  · refine .mk _ _ false Try.call34 hg (Nat.le_of_ble_eq_true rfl) (.inl rfl) ?_
    conv => whnf
    have hsub : subCat l n0 last = cat l last := sub_cat hn0 last
    have hl9 := sm.len
    have hln : 0 + n0 ≤ (l.map encItem).length := by rw [List.length_map]; omega
    have hs : ∀ x ∈ l, x.b.size ≤ 9223372036854775807 := fun x hx => Nat.le_trans (sm.nm x hx) (by decide)
    refine ⟨hln, ?_⟩
    conv => whnf
    cases hp : catOk l last with
    | false =>
      have b1 := implTake_bad l last h n (by omega) hs hp
      have b2 := specTake_bad l last h n (by omega) hs hp
      rw [← hsub] at b1 b2
      refine .mk _ _ false Try.call27 b1 (Nat.le_of_ble_eq_true rfl) (.inr ⟨AV.nsB_iff rfl, fun k hk => by cases hk⟩) ?_
      conv => whnf
      refine ⟨hln, ?_⟩
      conv => whnf
      refine .mk _ _ false Try.call26 b2 (Nat.le_of_ble_eq_true rfl) (.inr ⟨AV.nsB_iff rfl, fun k hk => by cases hk⟩) ?_
      conv => whnf
      refine .mk _ _ false Try.call33 whCat_no (Nat.le_of_ble_eq_true rfl) (.inl rfl) ?_
      conv => whnf
      refine .mk _ _ false Try.call33 whCat_no (Nat.le_of_ble_eq_true rfl) (.inl rfl) ?_
      conv => whnf
      refine ⟨trivial, ?_⟩
      conv => whnf
      rfl
    | true =>
      have p := catOk_of hp
      have hl8 := p.len
      have hlast := inR_iff.1 p.lst
      have t1 := implTake_ok l last h n hs p
      have t2 := specTake_ok l last h n hs p
      cases hk : decide (findI (fun x => same x h n) l < 0) with
      | true =>
        have e : takeC l last h n = (l, last, 3) := by unfold takeC; rw [hk]
        rw [e, ← hsub] at t1 t2
        refine .mk _ _ false Try.call27 t1 (Nat.le_of_ble_eq_true rfl) (.inr ⟨AV.nsB_iff rfl, arr_noSl _⟩) ?_
        conv => whnf
        refine ⟨hln, ?_⟩
        conv => whnf
        refine .mk _ _ false Try.call26 t2 (Nat.le_of_ble_eq_true rfl) (.inr ⟨AV.nsB_iff rfl, arr_noSl _⟩) ?_
        conv => whnf
        have hll : 0 + l.length ≤ (l.map encItem).length := by rw [List.length_map]; omega
        have wh : Good Try.prog 33 [subCat l l.length last, subCat l l.length last] [] (vbool true) [] := by rw [hsT]; exact whCat_ok l last (by omega)
        refine ⟨hll, ?_⟩
        conv => whnf
        refine ⟨hll, ?_⟩
        conv => whnf
        refine .mk _ _ false Try.call33 wh (Nat.le_of_ble_eq_true rfl) (.inr ⟨AV.nsB_iff rfl, fun k hk => by cases hk⟩) ?_
        conv => whnf
        refine ⟨hll, ?_⟩
        conv => whnf
        refine ⟨hll, ?_⟩
        conv => whnf
        refine .mk _ _ false Try.call33 wh (Nat.le_of_ble_eq_true rfl) (.inr ⟨AV.nsB_iff rfl, fun k hk => by cases hk⟩) ?_
        conv => whnf
        refine ⟨trivial, ?_⟩
        conv => whnf
        rfl
      | false =>
        have F := takF p (h := h) (n := n) (by have := of_decide_eq_false hk; omega)
        have e : takeC l last h n = (delAt l (findI (fun x => same x h n) l).toNat, last, 0) := by unfold takeC; rw [hk]
        rw [e, ← hsub] at t1 t2
        generalize (findI (fun x => same x h n) l).toNat = k at F t1 t2
        obtain ⟨X, hX⟩ : ∃ X, X = delAt l k := ⟨_, rfl⟩
        have hXl : X.length + 1 = l.length := by have := F.lt; rw [hX, delAt_len F.lt]; omega
        rw [← hX] at t1 t2
        have F_ok := F.ok
        have F_gone := F.gone
        have F_ed := F.ed
        have F_old := F.old
        rw [← hX] at F_ok F_gone F_ed F_old
        have hll : 0 + X.length ≤ (X.map encItem).length := by rw [List.length_map]; omega
        have wh : Good Try.prog 33 [subCat X X.length last, subCat X X.length last] [] (vbool true) [] := by rw [hsT]; exact whCat_ok X last (by omega)
        have gk : Good Try.prog 24 [subCat l n0 last, vint h, vstr n] [] (.tup [.agg ((encItem (ia l k)).map .p), vbool true]) [] := by
          rw [hsub]
          have := get_yes l last h n p (by rw [F.fk]; omega)
          rw [F.fk] at this
          exact this
        have gx : Good Try.prog 24 [subCat X X.length last, vint h, vstr n] [] gotNo [] := by
          rw [hsT]; exact get_no X last h n F_ok F_gone
        have ge : Good Try.prog 21 [subCat X X.length last, vint (ia l k).c] [] gotNo [] := by
          rw [hsT]; exact ed_no X last _ F_ok F_ed
        have hsX : ∀ x ∈ X, x.b.size ≤ 9223372036854775807 := fun x hx => Nat.le_trans (F_ok.names x hx) (by decide)
        have gp : Good Try.prog 31 [subCat X X.length last, vint h, vstr n, vstr (ia l k).d] [] (putR (putC X last h n (ia l k).d)) (putB (putC X last h n (ia l k).d)) := by
          rw [hsT]; exact implPut_ok X last h n _ hsX hn2 F_ok
        have okX : Good Try.prog 16 [subCat X X.length last] [] (vbool true) [] := by
          rw [hsT]
          have := implOk_ok X last (by omega) hsX
          rw [catOk_true F_ok] at this; exact this
        have hbad := @putC_bad X last h n (ia l k).d
        have hgood := @putC_good X last h n (ia l k).d F_ok
        have hkp := @putC_keeps X last h n (ia l k).d F_ok
        generalize putC X last h n (ia l k).d = T at hbad hgood hkp gp
        have hT8 := hkp.len
        have hlT : 0 + T.1.length ≤ (T.1.map encItem).length := by rw [List.length_map]; omega
        refine .mk _ _ false Try.call27 t1 (Nat.le_of_ble_eq_true rfl) (.inr ⟨AV.nsB_iff rfl, arr_noSl _⟩) ?_
        conv => whnf
        refine ⟨hln, ?_⟩
        conv => whnf
        refine .mk _ _ false Try.call26 t2 (Nat.le_of_ble_eq_true rfl) (.inr ⟨AV.nsB_iff rfl, arr_noSl _⟩) ?_
        conv => whnf
        refine ⟨hll, ?_⟩
        conv => whnf
        refine ⟨hll, ?_⟩
        conv => whnf
        refine .mk _ _ false Try.call33 wh (Nat.le_of_ble_eq_true rfl) (.inr ⟨AV.nsB_iff rfl, fun k hk => by cases hk⟩) ?_
        conv => whnf
        refine ⟨hln, ?_⟩
        conv => whnf
        refine .mk _ _ false Try.call24 gk (Nat.le_of_ble_eq_true rfl) (.inr ⟨AV.nsB_iff rfl, fun k hk => by cases hk⟩) ?_
        conv => whnf
        refine ⟨hll, ?_⟩
        conv => whnf
        refine .mk _ _ false Try.call24 gx (Nat.le_of_ble_eq_true rfl) (.inr ⟨AV.nsB_iff rfl, fun k hk => by cases hk⟩) ?_
        conv => whnf
        refine ⟨hll, ?_⟩
        conv => whnf
        refine .mk _ _ false Try.call21 ge (Nat.le_of_ble_eq_true rfl) (.inr ⟨AV.nsB_iff rfl, fun k hk => by cases hk⟩) ?_
        conv => whnf
        refine ⟨hll, ?_⟩
        conv => whnf
        refine .mk _ _ false Try.call31 gp (Nat.le_of_ble_eq_true rfl) (.inr ⟨AV.nsB_iff rfl, arr_noSl _⟩) ?_
        conv => whnf
        obtain ⟨u, b, gy, hu⟩ : ∃ (u : RItem) (b : Bool), Good Try.prog 24 [subCat T.1 T.1.length T.2.1, vint h, vstr n] [] (.tup [.agg ((encItem u).map .p), vbool b]) [] ∧ (T.2.2 = 0 → b = true ∧ u.d = (ia l k).d ∧ (ia l k).c < u.c) := by
          by_cases q : T.2.2 = 0
          · obtain ⟨kk, G⟩ := (hgood q).facts F_ok
            have hlst := (hgood q).lst
            refine ⟨⟨h, n, last + 1, (ia l k).d⟩, true, ?_, fun _ => ⟨rfl, rfl, ?_⟩⟩
            · rw [hsT, hlst]
              have := get_yes T.1 (last + 1) h n G.ok (by rw [G.fk]; omega)
              rw [G.fk] at this
              unfold gotR at this
              rw [Int.toNat_natCast, G.ik] at this
              exact this
            · have := inR_iff.1 (p.at_ k F.lt).ed
              show (ia l k).c < last + 1
              omega
          · refine ⟨zItem, false, ?_, fun q2 => absurd q2 q⟩
            obtain ⟨e, -, -⟩ := hbad q
            have e1 : T.1 = X := by rw [e]
            have e2 : T.2.1 = last := by rw [e]
            rw [e1, e2]
            exact gx
        refine ⟨hlT, ?_⟩
        conv => whnf
        refine .mk _ _ false Try.call24 gy (Nat.le_of_ble_eq_true rfl) (.inr ⟨AV.nsB_iff rfl, fun k hk => by cases hk⟩) ?_
        conv => whnf
        refine VLoop.enter [3, 6, 10, 13, 15, 17, 18, 19, 20] ?_
        conv => whnf
        refine VLoop.ind1 (n0 := 6) (α := Int) noM [3, 6, 10, 13, 15, 17, 18, 19, 20] (fun i => ⟨171, 0, [(3, .one (.hp 0 0 0)), (6, .one (.hp 1 0 0)), (10, .one (.hp 2 0 0)), (13, vbool false), (15, vbool false), (17, vint T.2.2), (18, .one (.hp 3 0 0)), (19, vbool b), (20, vint i)],
            [(0, some (.box [.p (.lit (.int .i64 last)), .hs 4 0 n0])), (1, some (.box [.p (.lit (.int .i64 last)), .hs 5 0 X.length])), (2, some (.box ((encItem (ia l k)).map .p))), (3, some (.box ((encItem u).map .p))), (4, some (.arr 4 (l.map encItem))), (5, some (.arr 4 (X.map encItem)))]⟩)
          (fun i => ∃ j : Nat, i = j ∧ j ≤ X.length) (fun i => ((X.length : Int) - i).toNat) ?_ 0 ⟨0, rfl, by omega⟩
        rintro _ ⟨i, rfl, hi⟩
        conv => whnf
        split
        · rename_i q1
          have q1' := of_decide_eq_true q1
          have hil : i < X.length := by omega
          have hml : (X.map encItem).length = X.length := by rw [List.length_map]
          have ei : 0 + (i : Int).toNat = i := by omega
          have hw : IntKind.i64.wrap ((i : Int) + 1) = i + 1 := wi _ (by omega) (by omega)
          obtain ⟨j, hj1, hj2⟩ := F_old i hil
          have gi : Good Try.prog 21 [subCat l n0 last, vint (ia X i).c] [] (.tup [.agg ((encItem (ia X i)).map .p), vbool true]) [] := by
            rw [hsub]
            have := ed_yes l last (ia X i).c p (by rw [hj1]; omega)
            rw [hj1] at this
            unfold gotR at this
            rw [Int.toNat_natCast, hj2] at this
            exact this
          conv => whnf
          refine VDraw.goR [0, 0, 2, 0, 14, 30, 62, 127, 255, 511, 511, 0, 3071, 8191] [7, 11, 12] [(12, [11])] [] rfl (by decide +kernel) ?_
          conv => whnf
          refine ⟨by omega, by omega, by omega, ?_⟩
          conv => whnf
          refine ⟨_, ia_at X ei hil, ?_⟩
          conv => whnf
          refine ⟨hln, ?_⟩
          conv => whnf
          refine .mk _ _ false Try.call21 gi (Nat.le_of_ble_eq_true rfl) (.inr ⟨AV.nsB_iff rfl, fun k hk => by cases hk⟩) ?_
          conv => whnf
          refine VDraw.goR [0, 1, 3, 7, 7, 23, 7, 119, 247, 511, 1023] [] [] [] rfl (by decide +kernel) ?_
          conv => whnf
          refine ⟨by omega, by omega, by omega, ?_⟩
          conv => whnf
          refine ⟨_, ia_at X ei hil, ?_⟩
          conv => whnf
          refine ⟨by decide +kernel, by decide +kernel, ?_⟩
          conv => whnf
          split
          · rename_i q; simp at q
          conv => whnf
          exact ⟨_, rfl, rfl, ⟨i + 1, by rw [hw]; simp, by omega⟩, by rw [hw]; omega⟩
        · rename_i q1
          conv => whnf
          refine ⟨hll, ?_⟩
          conv => whnf
          refine .mk _ _ false Try.call16 okX (Nat.le_of_ble_eq_true rfl) (.inr ⟨AV.nsB_iff rfl, fun k hk => by cases hk⟩) ?_
          conv => whnf
          split
          case h_2 => rename_i q; simp at q
          conv => whnf
          cases hb0 : (T.2.2 != 0) with
          | true =>
            conv => whnf
            refine ⟨trivial, ?_⟩
            conv => whnf
            rfl
          | false =>
            obtain ⟨rfl, hu2, hu3⟩ := hu (by simpa using hb0)
            conv => whnf
            rw [hu2, str_t rfl]
            conv => whnf
            refine ⟨trivial, ?_⟩
            conv => whnf
            exact congrArg vbool (decide_eq_true hu3)
theorem fnCatTake_good (bs : List Int) (ok : bs.length ≤ 9223372036854775807 ∧ ∀ x ∈ bs, (Lit.int .u8 x).wf = true) :
    ∃ r out, r = vbool true ∧ Good Try.prog 12 [.one (.p (.sl (bs.map encU)))] [] r out :=
  catTake_law bs (fun x hx => u8_rng (ok.2 x hx)) ok.1
end Go.Abs.C
