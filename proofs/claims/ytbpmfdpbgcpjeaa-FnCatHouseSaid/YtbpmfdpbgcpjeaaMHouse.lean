import Derived.Test.YtbpmfdpbgcpjeaaGCat13
import Derived.ArgAppend
import Derived.Laws.Slices
import Derived.Laws.OwnMore
import Derived.WalkKit
import Derived.RowKit3
import Derived.Shelf.RegionOpenPlain
import Derived.Test.YtbpmfdpbgcpjeaaGCat17
import Derived.Test.YtbpmfdpbgcpjeaaGLaw9
import Derived.Test.YtbpmfdpbgcpjeaaGAbs26
set_option linter.unusedSimpArgs false
set_option linter.unusedVariables false
namespace Go.Abs.C
open Go Go.Abs Go.Proofs Go.RowKit
structure Keep0 (p : Prop) : Prop where
  mk ::
  out : p
section
variable {P : Program} {ops : Array Oper} {o : Oper} {a : Act} {Q : Exit → Act → World → Prop} {Kc : Act → World → Prop} {W : World}
theorem app_step (hw : Region.wanted o (yielded ops a.tmps) = true) (s x : Operand) (t : TypeId) (ho : o.op = .call { callee := .builtin .append, args := #[s, x], argTypes := #[t, t] })
    {vs vx r : Value} {W1 : World} (hs : a.eval s = vs) (hx : a.eval x = vx) (hr : ∀ ty, (Builtin.append_ #[t, t] ty #[vs, vx]).run P W = .ok r W1) (h : Kc (a.put o.dst r) W1) :
    if Region.wanted o (yielded ops a.tmps) = true then Oper.wp P o a W Kc Q else Kc (a.put o.dst undef) W := by
  rw [if_pos hw]
  unfold Oper.wp execOp
  simp only [ho, resolve, invoke, builtin, Sem.run_bind, Sem.run_pure, Result.andThen_ok, List.map_toArray, List.map_cons, List.map_nil, hs, hx, hr]
  exact h
end
/-- The cells behind element i of a row, moved down by one element. -/
def newsOf (cur : Array Value) (n i : Nat) : List Value := (cur.toList.drop ((i + 1) * 4)).take ((n - (i + 1)) * 4)
theorem newsOf_len {cur : Array Value} {n i : Nat} (h : n * 4 ≤ cur.size) (hi : i < n) : (newsOf cur n i).length = (n - (i + 1)) * 4 := by
  unfold newsOf
  rw [List.length_take, List.length_drop, Array.length_toList]
  omega
theorem newsOf_get {cur : Array Value} {n i q : Nat} (h : n * 4 ≤ cur.size) (hq : q < (n - (i + 1)) * 4) : (newsOf cur n i)[q]? = cur[(i + 1) * 4 + q]? := by
  unfold newsOf
  rw [List.getElem?_take, if_pos hq, List.getElem?_drop, Array.getElem?_toList]
theorem app_run (P : Program) (t e : TypeId) (inf : TypeInfo) (ht : P.underlying t = some (.slice e)) (hi : P.info? e = some inf) (hsz : inf.size = 4) (g n c c2 i : Nat) (bt : TypeId) (fr : Nat × Nat) (cur : Array Value) (W : World)
    (hh : W.heap[g]? = some (.cells cur bt fr)) (hfz : ∀ o, o < cur.size → (fr.1 ≤ o && o < fr.2) = false) (hs : n * 4 ≤ cur.size) (hone : ∀ v ∈ cur, v.oneCell' = true) (hin : i < n) (hnc : n ≤ c) (ty : TypeId) :
    (Builtin.append_ #[t, t] ty #[.slice (some ⟨g, 0, none⟩) i c, .slice (if c = i + 1 then some ⟨g, 0, none⟩ else some ⟨g, (i + 1) * 4, none⟩) (n - (i + 1)) c2]).run P W = .ok (.slice (some ⟨g, 0, none⟩) (n - 1) c) (W.setCells g (i * 4) (newsOf cur n i)) := by
  have hl := newsOf_len hs hin
  obtain ⟨ad, ead, hcell⟩ : ∃ ad, (if c = i + 1 then some ⟨g, 0, none⟩ else some ⟨g, (i + 1) * 4, none⟩ : Option Addr) = some ad ∧ ∀ j u, (newsOf cur n i)[j]? = some u → W.cell? (ad.add j) = some u := by
    by_cases hck : c = i + 1
    · rw [if_pos hck]
      refine ⟨_, rfl, fun j u hu => ?_⟩
      have h0 : newsOf cur n i = [] := List.eq_nil_of_length_eq_zero (by rw [hl]; omega)
      rw [h0] at hu; simp at hu
    · rw [if_neg hck]
      refine ⟨_, rfl, fun j u hu => ?_⟩
      have hj : j < (newsOf cur n i).length := (List.getElem?_eq_some_iff.1 hu).1
      rw [newsOf_get hs (by omega)] at hu
      rw [Addr.add_lit, World.cell_of hh]
      exact hu
  rw [ead]
  have hrun := run_append_room_cells (P := P) W t ty e inf ht hi g 0 i c ad (n - (i + 1)) c2 (newsOf cur n i) (by rw [hl, hsz]) hcell
    (fun u hu => by
      obtain ⟨q, hq⟩ := List.mem_iff_getElem?.1 hu
      have hj : q < (newsOf cur n i).length := (List.getElem?_eq_some_iff.1 hq).1
      rw [newsOf_get hs (by omega)] at hq
      exact hone u (Array.mem_of_getElem? hq)) (by omega)
    (fun j hj => by rw [hsz, World.cell_of hh, Array.getElem?_eq_getElem (by omega)]; rfl) (fun j hj => by rw [hsz, World.frozen_of hh]; exact hfz _ (by omega))
  rw [hsz, Nat.zero_add, show i + (n - (i + 1)) = n - 1 by omega] at hrun
  exact hrun
theorem one4 : ∀ v ∈ ([.int .i64 0, .string ⟨#[]⟩, .int .i64 0, .string ⟨#[]⟩] : List Value), v.oneCell' = true := by intro v hv; simp at hv; rcases hv with rfl | rfl | rfl | rfl <;> rfl
set_option maxHeartbeats 4000000 in
set_option maxRecDepth 1000000 in
theorem del_raw (g n c i : Nat) (bt : TypeId) (fr : Nat × Nat) (cur : Array Value) (w : World)
    (hh : w.heap[g]? = some (.cells cur bt fr)) (hfz : ∀ o, o < cur.size → (fr.1 ≤ o && o < fr.2) = false) (hs : n * 4 ≤ cur.size) (hone : ∀ v ∈ cur, v.oneCell' = true) (hi : i < n) (hnc : n ≤ c) (hmax : n ≤ 9223372036854775000) :
    Calls Try.prog 75 #[.slice (some ⟨g, 0, none⟩) n c, .int .i64 i, .int .i64 ((i + 1 : Nat) : Int)] w fun e w' => e = .returned (.slice (some ⟨g, 0, none⟩) (n - 1) c) ∧
      ∃ (w0 : World) (zs : List Value), w0.heap = w.heap ∧ w0.os = w.os ∧ w0.tape = w.tape ∧ w0.output = w.output ∧ zs.length = 4 ∧ (∀ v ∈ zs, v.oneCell' = true) ∧ w' = (w0.setCells g (i * 4) (newsOf cur n i)).setCells g ((n - 1) * 4) zs := by
  have hu27 := Try.underlying27
  have mixed : Try.prog.follows .mixedOrders = true := by kernel_rfl
  have hi36 : (Try.prog.info? 36).map (·.size) = some 4 := by kernel_rfl
  obtain ⟨inf, hinf, hsz⟩ := Option.map_eq_some_iff.1 hi36
  have happ : ∀ (W : World), W.heap = w.heap → ∀ (j c2 : Nat), j = i + 1 → ∀ ty, (Builtin.append_ #[27, 27] ty #[.slice (some ⟨g, 0, none⟩) i c, .slice (if c = j then some ⟨g, 0, none⟩ else some ⟨g, j * 4, none⟩) (n - j) c2]).run Try.prog W = .ok (.slice (some ⟨g, 0, none⟩) (n - 1) c) (W.setCells g (i * 4) (newsOf cur n i)) := by
    rintro W hW j c2 rfl ty
    exact app_run Try.prog 27 36 inf hu27 hinf hsz g n c c2 i bt fr cur W (by rw [hW]; exact hh) hfz hs hone hi hnc ty
  have hcl : ∀ (W : World), W.heap = w.heap → ∀ ty c3, (Builtin.clear_ #[27] ty #[.slice (some ⟨g, (n - 1) * 4, none⟩) (n - (n - 1)) c3]).run Try.prog (W.setCells g (i * 4) (newsOf cur n i)) = .ok (.tuple #[]) ((W.setCells g (i * 4) (newsOf cur n i)).setCells g ((n - 1) * 4) [.int .i64 0, .string ⟨#[]⟩, .int .i64 0, .string ⟨#[]⟩]) := by
    intro W hW ty c3
    have e1 : n - (n - 1) = 1 := by omega
    have hblk := setCells_heap g bt fr (newsOf cur n i) (i * 4) cur W (by rw [hW]; exact hh)
    have hsp : (spl cur (i * 4) (newsOf cur n i)).size = cur.size := spl_size ..
    have hst := run_storeCells_cells (P := Try.prog) g ((n - 1) * 4) [.int .i64 0, .string ⟨#[]⟩, .int .i64 0, .string ⟨#[]⟩] 0 (W.setCells g (i * 4) (newsOf cur n i)) (by
      intro j hj
      have hj' : j < 4 := by simpa using hj
      rw [World.cell_of hblk, Array.getElem?_eq_getElem (by omega)]
      rfl) (by intro j hj; have hj' : j < 4 := by simpa using hj
               rw [World.frozen_of hblk]; exact hfz _ (by omega)) (by intro v hv; simp at hv; rcases hv with rfl | rfl | rfl | rfl <;> rfl)
    rw [Nat.add_zero] at hst
    rw [e1]
    have hz : ∀ w, (zeroValue 36).run Try.prog w = .ok (.agg #[.int .i64 0, .string ⟨#[]⟩, .int .i64 0, .string ⟨#[]⟩]) w := fun w => by kernel_rfl
    have hzc : (Builtin.zeroCells (Value.agg #[.int .i64 0, .string ⟨#[]⟩, .int .i64 0, .string ⟨#[]⟩]).cells 1).toList = [.int .i64 0, .string ⟨#[]⟩, .int .i64 0, .string ⟨#[]⟩] := by
      simp only [Builtin.zeroCells, Value.cells, Array.toList_map, Array.toList_range]
      rfl
    simp [Builtin.clear_, run_underlying hu27, hz, hzc, hst]
  obtain ⟨j, hj⟩ : ∃ j : Nat, j = i + 1 := ⟨_, rfl⟩
  have hne : ¬ i = j := by omega
  have hij : i ≤ j := by omega
  have hjn : j ≤ n := by omega
  have hic : i ≤ c := by omega
  have hjc : j ≤ c := by omega
  have HJ := Keep0.mk hj
  have HA := Keep0.mk happ
  have HC := Keep0.mk hcl
  rw [← hj]
  have HN := Keep0.mk hnc
  clear hj hs hone hfz hh hi happ hcl
  go_enter Try.func75, Try.ntmps75
  go_wp2_with fail
  go_region_law_o (refine app_step (vs := .slice (some ⟨g, 0, none⟩) i c) (vx := .slice (if c = j then some ⟨g, 0, none⟩ else some ⟨g, j * 4, none⟩) (n - j) (c - j)) (by rfl) (.tmp 22) (.tmp 25) 27 rfl (by simp [Act.eval, Act.put]) (by simp [Act.eval, Act.put]) (HA.out (World.drew w) rfl j (c - j) HJ.out) ?_)
  have hn1 : n - 1 ≤ n := by omega
  have hn2 : n - 1 ≤ c := by omega
  have HW : ∀ ty c3, (Builtin.clear_ #[27] ty #[.slice (some ⟨g, (n - 1) * 4, none⟩) (n - (n - 1)) c3]).run Try.prog (w.drew.setCells g (i * 4) (newsOf cur n i)) = .ok (.tuple #[]) ((w.drew.setCells g (i * 4) (newsOf cur n i)).setCells g ((n - 1) * 4) [.int .i64 0, .string ⟨#[]⟩, .int .i64 0, .string ⟨#[]⟩]) := HC.out w.drew rfl
  clear HC HA hi36 hinf hsz
  go_wp2
  all_goals
    go_ret
    exact ⟨rfl, w.drew, rfl, rfl, rfl, rfl, [.int .i64 0, .string ⟨#[]⟩, .int .i64 0, .string ⟨#[]⟩], rfl, one4, rfl⟩
set_option maxHeartbeats 16000000 in
set_option maxRecDepth 100000 in
theorem good_del (els : List (List PV)) (n i : Nat) (hn : n = els.length) (hi : i < n) (hb : n ≤ 1000000) :
    Good Try.prog 75 [.one (.hs 0 0 n), vint i, vint ((i + 1 : Nat) : Int)] [.arr 4 els] (.one (.hs 0 0 (n - 1))) [.arr 4 (els.eraseIdx i)] := by
  intro w vs σ S hl hr hin hlent hap hS hG
  rcases vs with ⟨l⟩
  rcases l with _ | ⟨v0, _ | ⟨v1, _ | ⟨v2, _ | ⟨v3, l⟩⟩⟩⟩
  · cases hl
  · cases hl
  · cases hl
  · have h0 := hr 0 _ v0 rfl rfl
    have h1 := lit_inv (hr 1 _ v1 rfl rfl) rfl
    have h2 := lit_inv (hr 2 _ v2 rfl rfl) rfl
    subst h1 h2
    obtain ⟨⟨cur, ty, fr, g1, g0, g2, g3, g6, g4, g5⟩, _, hnS⟩ := hlent 0 _ rfl
    cases h0 with | one h0 =>
    cases h0 with
    | hs0 => omega
    | hs _ _ _ cap hc hnc =>
    have hcap : n * 4 ≤ cur.size := by rw [g2, g6]; exact Nat.mul_le_mul_right _ (by omega)
    rw [Nat.zero_mul]
    refine Calls.mono (del_raw (σ 0).k n cap i ty fr cur w g1 g0 hcap g3 hi hnc (by omega)) ?_
    rintro e w' ⟨rfl, w0, zs, e1, e2, e3, e4, hz4, hz1, rfl⟩
    have hln := newsOf_len hcap hi
    have b1 := setCells_heap (σ 0).k ty fr (newsOf cur n i) (i * 4) cur w0 (by rw [e1]; exact g1)
    have s1 : (spl cur (i * 4) (newsOf cur n i)).size = cur.size := spl_size ..
    have b2 := setCells_heap (σ 0).k ty fr zs ((n - 1) * 4) _ _ b1
    have hother : ∀ k, k ≠ (σ 0).k → ((w0.setCells (σ 0).k (i * 4) (newsOf cur n i)).setCells (σ 0).k ((n - 1) * 4) zs).heap[k]? = w.heap[k]? := fun k hk => by
      rw [setCells_other _ _ _ _ _ hk, setCells_other _ _ _ _ _ hk, e1]
    have hsize : ((w0.setCells (σ 0).k (i * 4) (newsOf cur n i)).setCells (σ 0).k ((n - 1) * 4) zs).heap.size = w.heap.size := by
      rw [setCells_size, setCells_size, e1]
    have o1 := setCells_os (σ 0).k (newsOf cur n i) (i * 4) w0
    have o2 := setCells_os (σ 0).k zs ((n - 1) * 4) (w0.setCells (σ 0).k (i * 4) (newsOf cur n i))
    have hfit1 : i * 4 + (newsOf cur n i).length ≤ cur.size := by omega
    have hfit2 : (n - 1) * 4 + zs.length ≤ (spl cur (i * 4) (newsOf cur n i)).size := by omega
    refine ⟨_, rfl, σ, S, .one ?_, .one (Nat.zero_lt_one), Nat.le_refl _, ?_, fun b b' q1 q2 q3 => by simp at q1 q2; omega, fun b q => rfl, fun b q1 q2 => absurd q2 (by simp only [List.length_cons, List.length_nil] at q1 ⊢; omega), fun k hk => hsize ▸ hS k hk, fun k hk _ => hk, (o2.1.trans o1.1).trans e2, (o2.2.1.trans o1.2.1).trans e3, (o2.2.2.trans o1.2.2).trans e4, Nat.le_of_eq hsize.symm, fun k hk hne => hother k fun q => hne 0 Nat.zero_lt_one q.symm⟩
    · have := RepC.hs (w := ((w0.setCells (σ 0).k (i * 4) (newsOf cur n i)).setCells (σ 0).k ((n - 1) * 4) zs)) (S := S) (σ := σ) 0 0 (n - 1) cap hc (by omega)
      rwa [Nat.zero_mul] at this
    · intro b blk hb
      have hb0 : b = 0 := by
        rcases b with _ | b
        · rfl
        · simp at hb
      subst hb0
      cases hb
      refine ⟨⟨_, ty, fr, b2, fun o ho => ?_, ?_, fun v hv => ?_, g6, ?_, fun m el hm => ?_⟩, trivial, hnS⟩
      · rw [spl_size, s1] at ho; exact g0 o ho
      · rw [spl_size, s1]; exact g2
      · obtain ⟨m, hm⟩ := Array.mem_iff_getElem?.1 hv
        rw [spl_get _ _ _ _ hfit2] at hm
        split at hm
        · exact hz1 v (List.mem_of_getElem? hm)
        · rw [spl_get _ _ _ _ hfit1] at hm
          split at hm
          · rename_i q
            rw [newsOf_get hcap (by omega)] at hm
            exact g3 v (Array.mem_of_getElem? hm)
          · exact g3 v (Array.mem_of_getElem? hm)
      · rw [List.length_eraseIdx_of_lt (by omega)]; omega
      · have hml : m < n - 1 := by
          have := (List.getElem?_eq_some_iff.1 hm).1
          rw [List.length_eraseIdx_of_lt (by omega)] at this
          omega
        rw [List.getElem?_eraseIdx] at hm
        by_cases hmi : m < i
        · rw [if_pos hmi] at hm
          refine ⟨(g5 m el hm).1, fun j x hx => ?_⟩
          obtain ⟨v, q1, q2⟩ := (g5 m el hm).2 j x hx
          have hj : j < 4 := by have := (List.getElem?_eq_some_iff.1 hx).1; rw [(g5 m el hm).1, g6] at this; exact this
          rw [g6] at q1 ⊢
          refine ⟨v, ?_, q2.mono (fun k hk => hother k fun q => hnS (q ▸ hk)) (fun _ q => q)⟩
          rw [spl_get _ _ _ _ hfit2, if_neg (by omega), spl_get _ _ _ _ hfit1, if_neg (by omega)]
          exact q1
        · rw [if_neg hmi] at hm
          refine ⟨(g5 (m + 1) el hm).1, fun j x hx => ?_⟩
          obtain ⟨v, q1, q2⟩ := (g5 (m + 1) el hm).2 j x hx
          have hj : j < 4 := by have := (List.getElem?_eq_some_iff.1 hx).1; rw [(g5 (m + 1) el hm).1, g6] at this; exact this
          rw [g6] at q1 ⊢
          refine ⟨v, ?_, q2.mono (fun k hk => hother k fun q => hnS (q ▸ hk)) (fun _ q => q)⟩
          rw [spl_get _ _ _ _ hfit2, if_neg (by omega), spl_get _ _ _ _ hfit1, if_pos (by omega), newsOf_get hcap (by omega), show (i + 1) * 4 + (m * 4 + j - i * 4) = (m + 1) * 4 + j by omega]
          exact q1
  · cases hl
end Go.Abs.C

set_option linter.unusedSimpArgs false
set_option linter.unusedVariables false
namespace Go.Abs.C
open Go Go.Abs Go.Proofs Go.RowKit
attribute [local irreducible] IntKind.wrap
theorem take_all {l : Is} {n : Nat} (h : n = l.length) : List.take n (List.drop 0 (l.map encItem)) = l.map encItem := by
  subst h
  rw [List.drop_zero, List.take_of_length_le (by rw [List.length_map]; exact Nat.le_refl _)]
theorem len_all {l : Is} {n : Nat} (h : n = l.length) : 0 + n ≤ (l.map encItem).length := by rw [List.length_map]; omega
def dM : FuncId → Bool := fun f => [75].contains f
theorem delAt_erase (l : Is) (k : Nat) : (l.map encItem).eraseIdx k = (delAt l k).map encItem := by
  unfold delAt
  rw [List.eraseIdx_eq_take_drop_succ, List.map_append, List.map_take, List.map_drop]
set_option maxHeartbeats 16000000 in
set_option maxRecDepth 100000 in
theorem takeI_ok (l : Is) (last h : Int) (n : ByteArray) (hl8 : l.length ≤ 8) : Good Try.prog 55 [cat l last, vint h, vstr n] [] (putR (takeC l last h n)) (putB (takeC l last h n)) := by
  refine good_e dM Try.func55 rfl rfl ?_
  conv => whnf
  refine .mk _ _ false Try.call74 (clone_ok l last (by omega)) (Nat.le_of_ble_eq_true rfl) (.inl rfl) ?_
  conv => whnf
  refine .mk _ _ false Try.call49 (find_ok l last h n (by omega)) (Nat.le_of_ble_eq_true rfl) (.inl rfl) ?_
  conv => whnf
  generalize hT : takeC l last h n = T
  unfold takeC at hT
  split
  · rename_i q
    rw [q] at hT
    try simp only at hT
    subst hT
    conv => whnf
    refine ⟨⟨⟨by decide +kernel, Nat.le_of_ble_eq_true rfl⟩, trivial⟩, ?_⟩
    conv => whnf
    exact ⟨rfl, rfl⟩
  · rename_i q
    rw [q] at hT
    try simp only at hT
    subst hT
    have q' := of_decide_eq_false q
    have hfp := findI_pos (p := fun x => same x h n) (l := l) (by omega)
    have hge : 0 ≤ findI (fun x => same x h n) l := by omega
    generalize findI (fun x => same x h n) l = K at hfp hge ⊢
    obtain ⟨k, rfl⟩ := Int.eq_ofNat_of_zero_le hge
    rw [Int.toNat_natCast] at hfp ⊢
    have hw : IntKind.i64.wrap ((k : Int) + 1) = ((k + 1 : Nat) : Int) := by rw [wi _ (by omega) (by omega)]; omega
    conv => whnf
    rw [hw]
    have hg := good_del (l.map encItem) l.length k (List.length_map ..).symm hfp.1 (by omega)
    rw [delAt_erase] at hg
    refine .mk _ _ false Try.call75 hg (Nat.le_of_ble_eq_true rfl) (.inl rfl) ?_
    conv => whnf
    refine ⟨⟨rfl, rfl, rfl⟩, (by rw [List.length_map, delAt_len hfp.1]; omega), ?_⟩
    rw [show List.take (l.length - 1) (List.drop 0 ((delAt l k).map encItem)) = (delAt l k).map encItem from take_all (by rw [delAt_len hfp.1])]
    conv => whnf
    refine ⟨(fun q => by cases q), appB (show 0 + ((delAt l k).map encItem).length ≤ 1100000 by rw [List.length_map, delAt_len hfp.1]; omega), enc_len _, ?_⟩
    conv => whnf
    refine ⟨⟨⟨by decide +kernel, Nat.le_of_ble_eq_true rfl⟩, trivial⟩, ?_⟩
    conv => whnf
    exact ⟨(show AV.tup [.agg [.p (.lit (.int .i64 last)), .hs 0 0 (0 + ((delAt l k).map encItem).length)], vint 0] = putR (delAt l k, last, 0) from by rw [List.length_map, Nat.zero_add]), rfl⟩
set_option maxHeartbeats 16000000 in
set_option maxRecDepth 100000 in
theorem implTake_bad (l : Is) (last h : Int) (n : ByteArray) (hl : l.length < 1100000) (hs : ∀ x ∈ l, x.b.size ≤ 9223372036854775807) (hp : catOk l last = false) : Good Try.prog 27 [cat l last, vint h, vstr n] [] badC [] := by
  refine good_e noM Try.func27 rfl rfl ?_
  conv => whnf
  refine .mk _ _ false Try.call16 (implOk_ok l last hl hs) (Nat.le_of_ble_eq_true rfl) (.inl rfl) ?_
  rw [hp]
  conv => whnf
  refine ⟨⟨⟨by decide +kernel, Nat.le_of_ble_eq_true rfl⟩, trivial⟩, ?_⟩
  conv => whnf
  exact ⟨rfl, rfl⟩
set_option maxHeartbeats 16000000 in
set_option maxRecDepth 100000 in
theorem specTake_bad (l : Is) (last h : Int) (n : ByteArray) (hl : l.length < 1100000) (hs : ∀ x ∈ l, x.b.size ≤ 9223372036854775807) (hp : catOk l last = false) : Good Try.prog 26 [cat l last, vint h, vstr n] [] badC [] := by
  refine good_e noM Try.func26 rfl rfl ?_
  conv => whnf
  refine .mk _ _ false Try.call14 (specOk_ok l last hl hs) (Nat.le_of_ble_eq_true rfl) (.inl rfl) ?_
  rw [hp]
  conv => whnf
  refine ⟨⟨⟨by decide +kernel, Nat.le_of_ble_eq_true rfl⟩, trivial⟩, ?_⟩
  conv => whnf
  exact ⟨rfl, rfl⟩
set_option maxHeartbeats 16000000 in
set_option maxRecDepth 100000 in
theorem implTake_ok (l : Is) (last h : Int) (n : ByteArray) (hs : ∀ x ∈ l, x.b.size ≤ 9223372036854775807) (p : CatP l last) : Good Try.prog 27 [cat l last, vint h, vstr n] [] (putR (takeC l last h n)) (putB (takeC l last h n)) := by
  have hl8 := p.len
  refine good_e noM Try.func27 rfl rfl ?_
  conv => whnf
  refine .mk _ _ false Try.call16 (implOk_ok l last (by omega) hs) (Nat.le_of_ble_eq_true rfl) (.inl rfl) ?_
  rw [catOk_true p]
  conv => whnf
  refine .mk _ _ false Try.call55 (takeI_ok l last h n hl8) (Nat.le_of_ble_eq_true rfl) (.inl rfl) ?_
  conv => whnf
  refine ⟨⟨⟨by decide +kernel, Nat.le_of_ble_eq_true rfl⟩, trivial⟩, ?_⟩
  conv => whnf
  exact ⟨rfl, rfl⟩
end Go.Abs.C

set_option linter.unusedSimpArgs false
set_option linter.unusedVariables false
namespace Go.Abs.C
open Go Go.Abs Go.Proofs Go.RowKit
attribute [local irreducible] IntKind.wrap
set_option maxHeartbeats 16000000 in
set_option maxRecDepth 100000 in
theorem drawTake_ok (bs : List Int) (hb : ∀ x ∈ bs, 0 ≤ x ∧ x ≤ 255) (hl : bs.length ≤ 9223372036854775807) :
    ∃ r out, (∃ (h : Int) (n : ByteArray), n.size ≤ 1000 ∧ DrawR r [vint h, vstr n] out) ∧ Good Try.prog 34 [.one (.p (.sl (bs.map encU)))] [] r out := by
  refine good_v noM Try.func34 rfl rfl ?_
  conv => whnf
  obtain ⟨_, _, ⟨bs', hb', rfl, rfl⟩, hg⟩ := l1Open_ok bs hb hl
  refine .mk _ _ true Try.call50 hg (Nat.le_of_ble_eq_true rfl) (fun b hb => Nat.zero_le _) ?_
  conv => whnf
  obtain ⟨_, _, h, hg⟩ := l15AnyCat_ok bs' 0 hb' (by omega) (by omega)
  rcases h with ⟨q, hq0, hq1, rfl, rfl⟩ | ⟨l, last, q, n, sm, hn, hq0, hq1, rfl, rfl⟩
  all_goals
    refine .mk _ _ false Try.call51 hg (Nat.le_of_ble_eq_true rfl) (.inl rfl) ?_
    conv => whnf
    obtain ⟨_, _, ⟨v1, hv10, hv11, rfl, rfl⟩, hg1⟩ := pick_ok bs' q 3 hb'.rng hb'.len hq0 (by omega) (by omega) (by omega)
    refine .mk _ _ false Try.call52 hg1 (Nat.le_of_ble_eq_true rfl) (.inl rfl) ?_
    conv => whnf
    refine ⟨Nat.le_refl 5, ?_⟩
    conv => whnf
    obtain ⟨_, _, ⟨s, hs, rfl, rfl⟩, hg2⟩ := of_ok bs' (q + 1) [⟨#[97]⟩, ⟨#[98]⟩, ⟨#[99, 99]⟩, ⟨#[100]⟩, ⟨#[]⟩] hb' (by omega) (by omega) (by decide) (by decide)
    have hs2 : s.size ≤ 1000 := by
      simp only [List.mem_cons, List.not_mem_nil, or_false] at hs
      rcases hs with rfl | rfl | rfl | rfl | rfl <;> decide
    refine .mk _ _ true Try.call58 hg2 (Nat.le_of_ble_eq_true rfl) (fun b hb => by cases List.mem_singleton.1 hb; exact Nat.le_of_ble_eq_true rfl) ?_
    conv => whnf
    refine ⟨⟨⟨by decide +kernel, Nat.le_of_ble_eq_true rfl⟩, trivial⟩, ?_⟩
    conv => whnf
    refine ⟨v1, s, hs2, ?_⟩
    first
    | exact .inl ⟨rfl, rfl⟩
    | exact .inr ⟨l, last, n, sm, hn, rfl, rfl⟩
end Go.Abs.C

set_option linter.unusedSimpArgs false
set_option linter.unusedVariables false
namespace Go.Abs.C
open Go Go.Abs Go.Proofs Go.RowKit
attribute [local irreducible] IntKind.wrap
structure TakF (l : Is) (last h : Int) (n : ByteArray) (k : Nat) : Prop where
  lt : k < l.length
  fk : findI (fun x => same x h n) l = k
  ia_ : (ia l k).a = h
  ib_ : (ia l k).b = n
  gone : findI (fun x => same x h n) (delAt l k) < 0
  ed : findI (fun x => x.c == (ia l k).c) (delAt l k) < 0
  ok : CatP (delAt l k) last
  old : ∀ i, i < (delAt l k).length → ∃ j : Nat, findI (fun x => x.c == (ia (delAt l k) i).c) l = j ∧ ia l j = ia (delAt l k) i
theorem same_iff {x : RItem} {h : Int} {n : ByteArray} : same x h n = true ↔ x.a = h ∧ x.b = n := by
  unfold same
  rw [Bool.and_eq_true, beq_iff_eq, str_eq]
theorem takF {l : Is} {last h : Int} {n : ByteArray} (p : CatP l last) (hf : 0 ≤ findI (fun x => same x h n) l) : TakF l last h n (findI (fun x => same x h n) l).toNat := by
  have hfp := findI_pos hf
  obtain ⟨k, hk⟩ := Int.eq_ofNat_of_zero_le hf
  rw [hk, Int.toNat_natCast] at hfp
  rw [hk, Int.toNat_natCast]
  obtain ⟨e1, e2⟩ := same_iff.1 hfp.2.1
  have hi := ia_delAt hfp.1
  have hlen := delAt_len hfp.1
  have hneg : ∀ {p : RItem → Bool} {l : Is}, (∀ k, k < l.length → p (ia l k) = false) → findI p l < 0 := fun h => by rw [findI_no h]; decide
  refine ⟨hfp.1, hk, e1, e2, hneg fun j hj => ?_, hneg fun j hj => ?_, del_keeps p hfp.1, fun i hil => ?_⟩
  · rw [hi]
    split
    · rename_i q; exact hfp.2.2 j q
    · rename_i q
      have hs := p.sorted (j := k) (i := j + 1) (by omega) (by omega)
      cases q2 : same (ia l (j + 1)) h n with
      | false => rfl
      | true =>
        obtain ⟨f1, f2⟩ := same_iff.1 q2
        rw [f1, f2, ← e1, ← e2, less_irrefl] at hs
        exact absurd hs (by simp)
  · rw [hi, beq_eq_false_iff_ne]
    split
    · rename_i q; exact (p.at_ k hfp.1).new j q
    · rename_i q
      exact fun e => (p.at_ (j + 1) (by omega)).new k (by omega) e.symm
  · rw [hi]
    split
    · rename_i q
      exact ⟨i, edit_self p (by omega), rfl⟩
    · rename_i q
      exact ⟨i + 1, edit_self p (by omega), rfl⟩
end Go.Abs.C

set_option linter.unusedSimpArgs false
set_option linter.unusedVariables false
namespace Go.Abs.C
open Go Go.Abs Go.Proofs Go.RowKit
attribute [local irreducible] IntKind.wrap
set_option maxHeartbeats 16000000 in
set_option maxRecDepth 100000 in
theorem implBytes_ok (l : Is) (last h : Int) (p : CatP l last) : Good Try.prog 19 [cat l last, vint h] [] (vint (bytesOf l h)) [] := by
  have hl8 := p.len
  refine good_e noM Try.func19 rfl rfl ?_
  conv => whnf
  refine .mk _ _ false Try.call16 (implOk_ok l last (by omega) (fun x hx => Nat.le_trans (p.names x hx) (by decide))) (Nat.le_of_ble_eq_true rfl) (.inl rfl) ?_
  rw [catOk_true p]
  conv => whnf
  refine .mk _ _ false Try.call45 (bytes_ok l last h (by omega) (fun x hx => Nat.le_trans (p.small x hx) (by decide))) (Nat.le_of_ble_eq_true rfl) (.inl rfl) ?_
  conv => whnf
  refine ⟨trivial, ?_⟩
  conv => whnf
  exact ⟨rfl, rfl⟩
theorem putC_other {l : Is} {last h : Int} {n t : ByteArray} (p : CatP l last) (g : Int) (hg : g ≠ h) : bytesOf (putC l last h n t).1 g = bytesOf l g := by
  by_cases hc : (putC l last h n t).2.2 = 0
  · obtain ⟨k, hk, e⟩ := (putC_good p hc).k
    rw [e, bytesOf_putAt, if_neg (fun q => hg q.symm)]; rfl
  · rw [(putC_bad hc).1]
theorem takeC_other {l : Is} {last h : Int} {n : ByteArray} (g : Int) (hg : g ≠ h) : bytesOf (takeC l last h n).1 g = bytesOf l g := by
  unfold takeC
  split
  · rfl
  · rename_i q
    have hk := findI_pos (p := fun x => same x h n) (l := l) (by have := of_decide_eq_false q; omega)
    generalize (findI (fun x => same x h n) l).toNat = k at hk
    have e1 := (same_iff.1 hk.2.1).1
    rw [ia_lt hk.1] at e1
    show bytesOf (delAt l k) g = _
    have e : l = l.take k ++ (l[k]'hk.1 :: l.drop (k + 1)) := by rw [← List.drop_eq_getElem_cons hk.1, List.take_append_drop]
    have e2 : bytesOf l g = bytesOf (l.take k) g + bytesOf (l[k]'hk.1 :: l.drop (k + 1)) g := by rw [← bytesOf_app, ← e]
    rw [e2]
    unfold delAt
    rw [bytesOf_app]
    show _ = _ + ((if (l[k]'hk.1).a = g then (l[k]'hk.1).d.size else 0) + bytesOf (l.drop (k + 1)) g)
    rw [if_neg (fun z => hg (z.symm.trans e1)), Nat.zero_add]
set_option maxHeartbeats 16000000 in
set_option maxRecDepth 100000 in
theorem catHouse_law (bs : List Int) (hb : ∀ x ∈ bs, 0 ≤ x ∧ x ≤ 255) (hl : bs.length ≤ 9223372036854775807) : ∃ r out, r = vbool true ∧ Good Try.prog 10 [.one (.p (.sl (bs.map encU)))] [] r out := by
  refine good_v noM Try.func10 rfl rfl ?_
  conv => whnf
  split
  · conv => whnf
    refine ⟨trivial, ?_⟩
    conv => whnf
    rfl
  conv => whnf
  obtain ⟨_, _, ⟨h, n, t, hn, ht, hd⟩, hg⟩ := drawPut_ok bs hb hl
  have hsT : ∀ (m : Is) (k : Int), subCat m m.length k = cat m k := fun m k => sub_cat rfl k
  have hn2 : n.size ≤ 9223372036854775807 := Nat.le_trans hn (by decide)
  rcases hd with ⟨rfl, rfl⟩ | ⟨l, last, n0, sm, hn0, rfl, rfl⟩
  · obtain ⟨k0, hk0⟩ : ∃ k0 : Int, k0 = 0 := ⟨0, rfl⟩
    replace hg : Good Try.prog 30 [.one (.p (.sl (bs.map encU)))] [] (.tup [noCatK k0, vint h, vstr n, vstr t]) [] := by rw [hk0]; exact hg
    refine .mk _ _ false Try.call30 hg (Nat.le_of_ble_eq_true rfl) (.inl rfl) ?_
    conv => whnf
    have p : CatP [] k0 := by rw [hk0]; exact catNil
    have g1 : Good Try.prog 31 [noCatK k0, vint h, vstr n, vstr t] [] (putR (putC ([] : Is) k0 h n t)) (putB (putC ([] : Is) k0 h n t)) := good_nilK (implPut_ok ([] : Is) k0 h n t (fun x hx => by cases hx) hn2 p)
    have g2 : Good Try.prog 32 [noCatK k0, vint h, vstr n, vstr t] [] (putR (putC ([] : Is) k0 h n t)) (putB (putC ([] : Is) k0 h n t)) := good_nilK (specPut_ok ([] : Is) k0 h n t (fun x hx => by cases hx) hn2 p)
    have gO : Good Try.prog 14 [noCatK k0] [] (vbool true) [] := good_nilK (catOk_true p ▸ specOk_ok ([] : Is) k0 (by decide) (fun x hx => by cases hx))
    have gB : Good Try.prog 19 [noCatK k0, vint (1 - h)] [] (vint (bytesOf ([] : Is) (1 - h))) [] := good_nilK (implBytes_ok ([] : Is) k0 (1 - h) p)
    have hkp := @putC_keeps ([] : Is) k0 h n t p
    have hpo := @putC_other ([] : Is) k0 h n t p (1 - h)
    refine .mk _ _ false Try.call31 g1 (Nat.le_of_ble_eq_true rfl) (.inl rfl) ?_
    conv => whnf
    refine .mk _ _ false Try.call32 g2 (Nat.le_of_ble_eq_true rfl) (.inl rfl) ?_
    conv => whnf
    generalize putC ([] : Is) k0 h n t = T at hkp hpo ⊢
    have hT8 := hkp.len
    have hll : 0 + T.1.length ≤ (T.1.map encItem).length := by rw [List.length_map]; omega
    have wh : Good Try.prog 33 [subCat T.1 T.1.length T.2.1, subCat T.1 T.1.length T.2.1] [] (vbool true) [] := by rw [hsT]; exact whCat_ok T.1 T.2.1 (by omega)
    have hsT2 : ∀ x ∈ T.1, x.b.size ≤ 9223372036854775807 := fun x hx => Nat.le_trans (hkp.names x hx) (by decide)
    have gT : Good Try.prog 27 [subCat T.1 T.1.length T.2.1, vint h, vstr n] [] (putR (takeC T.1 T.2.1 h n)) (putB (takeC T.1 T.2.1 h n)) := by rw [hsT]; exact implTake_ok T.1 T.2.1 h n hsT2 hkp
    have gBT : Good Try.prog 19 [subCat T.1 T.1.length T.2.1, vint (1 - h)] [] (vint (bytesOf T.1 (1 - h))) [] := by rw [hsT]; exact implBytes_ok T.1 T.2.1 (1 - h) hkp
    have hku := @takeC_keeps T.1 T.2.1 h n hkp
    have hto := @takeC_other T.1 T.2.1 h n (1 - h)
    split
    · rename_i q; simp at q
    conv => whnf
    refine ⟨hll, ?_⟩
    conv => whnf
    refine ⟨hll, ?_⟩
    conv => whnf
    refine .mk _ _ false Try.call33 wh (Nat.le_of_ble_eq_true rfl) (.inr ⟨AV.nsB_iff rfl, fun k hk => by cases hk⟩) ?_
    conv => whnf
    refine .mk _ _ false Try.call14 gO (Nat.le_of_ble_eq_true rfl) (.inl rfl) ?_
    conv => whnf
    cases hq : decide (h < 0) with
    | true =>
      conv => whnf
      split
      case h_2 => rename_i q; simp at q
      conv => whnf
      refine ⟨hll, ?_⟩
      conv => whnf
      refine ⟨hll, ?_⟩
      conv => whnf
      refine .mk _ _ false Try.call33 wh (Nat.le_of_ble_eq_true rfl) (.inr ⟨AV.nsB_iff rfl, fun k hk => by cases hk⟩) ?_
      conv => whnf
      refine ⟨trivial, ?_⟩
      conv => whnf
      rfl
    | false =>
    conv => whnf
    cases hq2 : decide (h > 1) with
    | true =>
      conv => whnf
      split
      case h_2 => rename_i q; simp at q
      conv => whnf
      refine ⟨hll, ?_⟩
      conv => whnf
      refine ⟨hll, ?_⟩
      conv => whnf
      refine .mk _ _ false Try.call33 wh (Nat.le_of_ble_eq_true rfl) (.inr ⟨AV.nsB_iff rfl, fun k hk => by cases hk⟩) ?_
      conv => whnf
      refine ⟨trivial, ?_⟩
      conv => whnf
      rfl
    | false =>
    have q1 := of_decide_eq_false hq
    have q2 := of_decide_eq_false hq2
    have hw : IntKind.i64.wrap (1 - h) = 1 - h := wi _ (by omega) (by omega)
    conv => whnf
    refine ⟨hll, ?_⟩
    conv => whnf
    refine .mk _ _ false Try.call27 gT (Nat.le_of_ble_eq_true rfl) (.inr ⟨AV.nsB_iff rfl, arr_noSl _⟩) ?_
    conv => whnf
    generalize takeC T.1 T.2.1 h n = U at hku hto ⊢
    have hU8 := hku.len
    have hlu : 0 + U.1.length ≤ (U.1.map encItem).length := by rw [List.length_map]; omega
    have gBU : Good Try.prog 19 [subCat U.1 U.1.length U.2.1, vint (1 - h)] [] (vint (bytesOf U.1 (1 - h))) [] := by rw [hsT]; exact implBytes_ok U.1 U.2.1 (1 - h) hku
    rw [hpo (by omega)] at hto gBT
    rw [hto (by omega)] at gBU
    generalize bytesOf ([] : Is) (1 - h) = B at gB gBT gBU
    refine VDraw.goR [0, 0, 2, 7, 0, 0, 32, 127, 255, 511, 1023, 1023, 3071, 8191, 1023, 1023, 33791, 131071, 262143, 524287, 1048575] [3, 7, 13, 17] [] [] rfl (by decide +kernel) ?_
    conv => whnf
    rw [hw]
    refine ⟨hll, ?_⟩
    conv => whnf
    refine .mk _ _ false Try.call19 gBT (Nat.le_of_ble_eq_true rfl) (.inr ⟨AV.nsB_iff rfl, fun k hk => by cases hk⟩) ?_
    conv => whnf
    try rw [hw]
    refine .mk _ _ false Try.call19 gB (Nat.le_of_ble_eq_true rfl) (.inl rfl) ?_
    conv => whnf
    split
    case h_2 => rename_i q; simp at q
    conv => whnf
    refine ⟨hlu, ?_⟩
    conv => whnf
    try rw [hw]
    refine .mk _ _ false Try.call19 gBU (Nat.le_of_ble_eq_true rfl) (.inr ⟨AV.nsB_iff rfl, fun k hk => by cases hk⟩) ?_
    conv => whnf
    try rw [hw]
    refine .mk _ _ false Try.call19 gB (Nat.le_of_ble_eq_true rfl) (.inl rfl) ?_
    conv => whnf
    refine ⟨trivial, ?_⟩
    conv => whnf
    exact congrArg vbool (beq_self_eq_true _)
  · refine .mk _ _ false Try.call30 hg (Nat.le_of_ble_eq_true rfl) (.inl rfl) ?_
    conv => whnf
    have hsub : subCat l n0 last = cat l last := sub_cat hn0 last
    have hl9 := sm.len
    have hln : 0 + n0 ≤ (l.map encItem).length := by rw [List.length_map]; omega
    have hs : ∀ x ∈ l, x.b.size ≤ 9223372036854775807 := fun x hx => Nat.le_trans (sm.nm x hx) (by decide)
    refine ⟨hln, ?_⟩
    conv => whnf
    cases hp : catOk l last with
    | false =>
      have b1 := implPut_bad l last h n t (by omega) hs hp
      have b2 := specPut_bad l last h n t (by omega) hs hp
      have b3 := specOk_ok l last (by omega) hs
      rw [← hsub] at b1 b2 b3
      rw [hp] at b3
      refine .mk _ _ false Try.call31 b1 (Nat.le_of_ble_eq_true rfl) (.inr ⟨AV.nsB_iff rfl, fun k hk => by cases hk⟩) ?_
      conv => whnf
      refine ⟨hln, ?_⟩
      conv => whnf
      refine .mk _ _ false Try.call32 b2 (Nat.le_of_ble_eq_true rfl) (.inr ⟨AV.nsB_iff rfl, fun k hk => by cases hk⟩) ?_
      conv => whnf
      refine .mk _ _ false Try.call33 whCat_no (Nat.le_of_ble_eq_true rfl) (.inl rfl) ?_
      conv => whnf
      refine ⟨hln, ?_⟩
      conv => whnf
      refine .mk _ _ false Try.call14 b3 (Nat.le_of_ble_eq_true rfl) (.inr ⟨AV.nsB_iff rfl, fun k hk => by cases hk⟩) ?_
      conv => whnf
      refine .mk _ _ false Try.call33 whCat_no (Nat.le_of_ble_eq_true rfl) (.inl rfl) ?_
      conv => whnf
      refine ⟨trivial, ?_⟩
      conv => whnf
      rfl
    | true =>
      have p := catOk_of hp
      have hl8 := p.len
      have hlast := inR_iff.1 p.lst
      have g1 : Good Try.prog 31 [subCat l n0 last, vint h, vstr n, vstr t] [] (putR (putC l last h n t)) (putB (putC l last h n t)) := by have := implPut_ok l last h n t hs hn2 p; rw [← hsub] at this; exact this
      have g2 : Good Try.prog 32 [subCat l n0 last, vint h, vstr n, vstr t] [] (putR (putC l last h n t)) (putB (putC l last h n t)) := by have := specPut_ok l last h n t hs hn2 p; rw [← hsub] at this; exact this
      have gO : Good Try.prog 14 [subCat l n0 last] [] (vbool true) [] := by have := catOk_true p ▸ specOk_ok l last (by omega) hs; rw [← hsub] at this; exact this
      have gB : Good Try.prog 19 [subCat l n0 last, vint (1 - h)] [] (vint (bytesOf l (1 - h))) [] := by have := implBytes_ok l last (1 - h) p; rw [← hsub] at this; exact this
      have hkp := @putC_keeps l last h n t p
      have hpo := @putC_other l last h n t p (1 - h)
      refine .mk _ _ false Try.call31 g1 (Nat.le_of_ble_eq_true rfl) (.inr ⟨AV.nsB_iff rfl, arr_noSl _⟩) ?_
      conv => whnf
      refine ⟨hln, ?_⟩
      conv => whnf
      refine .mk _ _ false Try.call32 g2 (Nat.le_of_ble_eq_true rfl) (.inr ⟨AV.nsB_iff rfl, arr_noSl _⟩) ?_
      conv => whnf
      generalize putC l last h n t = T at hkp hpo ⊢
      have hT8 := hkp.len
      have hll : 0 + T.1.length ≤ (T.1.map encItem).length := by rw [List.length_map]; omega
      have wh : Good Try.prog 33 [subCat T.1 T.1.length T.2.1, subCat T.1 T.1.length T.2.1] [] (vbool true) [] := by rw [hsT]; exact whCat_ok T.1 T.2.1 (by omega)
      have hsT2 : ∀ x ∈ T.1, x.b.size ≤ 9223372036854775807 := fun x hx => Nat.le_trans (hkp.names x hx) (by decide)
      have gT : Good Try.prog 27 [subCat T.1 T.1.length T.2.1, vint h, vstr n] [] (putR (takeC T.1 T.2.1 h n)) (putB (takeC T.1 T.2.1 h n)) := by rw [hsT]; exact implTake_ok T.1 T.2.1 h n hsT2 hkp
      have gBT : Good Try.prog 19 [subCat T.1 T.1.length T.2.1, vint (1 - h)] [] (vint (bytesOf T.1 (1 - h))) [] := by rw [hsT]; exact implBytes_ok T.1 T.2.1 (1 - h) hkp
      have hku := @takeC_keeps T.1 T.2.1 h n hkp
      have hto := @takeC_other T.1 T.2.1 h n (1 - h)
      split
      · rename_i q; simp at q
      conv => whnf
      refine ⟨hll, ?_⟩
      conv => whnf
      refine ⟨hll, ?_⟩
      conv => whnf
      refine .mk _ _ false Try.call33 wh (Nat.le_of_ble_eq_true rfl) (.inr ⟨AV.nsB_iff rfl, fun k hk => by cases hk⟩) ?_
      conv => whnf
      refine ⟨hln, ?_⟩
      conv => whnf
      refine .mk _ _ false Try.call14 gO (Nat.le_of_ble_eq_true rfl) (.inr ⟨AV.nsB_iff rfl, fun k hk => by cases hk⟩) ?_
      conv => whnf
      cases hq : decide (h < 0) with
      | true =>
        conv => whnf
        split
        case h_2 => rename_i q; simp at q
        conv => whnf
        refine ⟨hll, ?_⟩
        conv => whnf
        refine ⟨hll, ?_⟩
        conv => whnf
        refine .mk _ _ false Try.call33 wh (Nat.le_of_ble_eq_true rfl) (.inr ⟨AV.nsB_iff rfl, fun k hk => by cases hk⟩) ?_
        conv => whnf
        refine ⟨trivial, ?_⟩
        conv => whnf
        rfl
      | false =>
      conv => whnf
      cases hq2 : decide (h > 1) with
      | true =>
        conv => whnf
        split
        case h_2 => rename_i q; simp at q
        conv => whnf
        refine ⟨hll, ?_⟩
        conv => whnf
        refine ⟨hll, ?_⟩
        conv => whnf
        refine .mk _ _ false Try.call33 wh (Nat.le_of_ble_eq_true rfl) (.inr ⟨AV.nsB_iff rfl, fun k hk => by cases hk⟩) ?_
        conv => whnf
        refine ⟨trivial, ?_⟩
        conv => whnf
        rfl
      | false =>
      have q1 := of_decide_eq_false hq
      have q2 := of_decide_eq_false hq2
      have hw : IntKind.i64.wrap (1 - h) = 1 - h := wi _ (by omega) (by omega)
      conv => whnf
      refine ⟨hll, ?_⟩
      conv => whnf
      refine .mk _ _ false Try.call27 gT (Nat.le_of_ble_eq_true rfl) (.inr ⟨AV.nsB_iff rfl, arr_noSl _⟩) ?_
      conv => whnf
      generalize takeC T.1 T.2.1 h n = U at hku hto ⊢
      have hU8 := hku.len
      have hlu : 0 + U.1.length ≤ (U.1.map encItem).length := by rw [List.length_map]; omega
      have gBU : Good Try.prog 19 [subCat U.1 U.1.length U.2.1, vint (1 - h)] [] (vint (bytesOf U.1 (1 - h))) [] := by rw [hsT]; exact implBytes_ok U.1 U.2.1 (1 - h) hku
      rw [hpo (by omega)] at hto gBT
      rw [hto (by omega)] at gBU
      generalize bytesOf l (1 - h) = B at gB gBT gBU
      refine VDraw.goR [0, 0, 2, 7, 0, 0, 32, 127, 255, 511, 1023, 1023, 3071, 8191, 1023, 1023, 33791, 131071, 262143, 524287, 1048575] [3, 7, 13, 17] [] [] rfl (by decide +kernel) ?_
      conv => whnf
      rw [hw]
      refine ⟨hll, ?_⟩
      conv => whnf
      refine .mk _ _ false Try.call19 gBT (Nat.le_of_ble_eq_true rfl) (.inr ⟨AV.nsB_iff rfl, fun k hk => by cases hk⟩) ?_
      conv => whnf
      refine ⟨hln, ?_⟩
      conv => whnf
      try rw [hw]
      refine .mk _ _ false Try.call19 gB (Nat.le_of_ble_eq_true rfl) (.inr ⟨AV.nsB_iff rfl, fun k hk => by cases hk⟩) ?_
      conv => whnf
      split
      case h_2 => rename_i q; simp at q
      conv => whnf
      refine ⟨hlu, ?_⟩
      conv => whnf
      try rw [hw]
      refine .mk _ _ false Try.call19 gBU (Nat.le_of_ble_eq_true rfl) (.inr ⟨AV.nsB_iff rfl, fun k hk => by cases hk⟩) ?_
      conv => whnf
      refine ⟨hln, ?_⟩
      conv => whnf
      try rw [hw]
      refine .mk _ _ false Try.call19 gB (Nat.le_of_ble_eq_true rfl) (.inr ⟨AV.nsB_iff rfl, fun k hk => by cases hk⟩) ?_
      conv => whnf
      refine ⟨trivial, ?_⟩
      conv => whnf
      exact congrArg vbool (beq_self_eq_true _)
theorem fnCatHouse_good (bs : List Int) (ok : bs.length ≤ 9223372036854775807 ∧ ∀ x ∈ bs, (Lit.int .u8 x).wf = true) :
    ∃ r out, r = vbool true ∧ Good Try.prog 10 [.one (.p (.sl (bs.map encU)))] [] r out :=
  catHouse_law bs (fun x hx => u8_rng (ok.2 x hx)) ok.1
end Go.Abs.C
