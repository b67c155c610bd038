/- A text of the session: functions of the program and their walks, laid by a program of its own (wip/tools/mkprint.py) over the translation. No condition. -/
import Derived.Test.YtdlinhegmplgiaaPCkptChecksx0
import Derived.Test.YtdlinhegmplgiaaPCkptChecksx4
namespace Go.Proofs.Ytdlinhegmplgiaa.PCkptChecks
open Go.RowKit Go.Proofs.YtdlinhegmplgiaaW.PrintWords Go.Proofs.YtdlinhegmplgiaaW.PrintLast Go.Proofs.YtdlinhegmplgiaaW.PrintMore
attribute [local go_sem] max2_int min2_int max_two min_two max_three min_three max_four min_four   -- for this text's walks alone
set_option linter.unusedVariables false
set_option linter.unusedSimpArgs false

-- NOT PRINTED: function 30 (ckpt_visit)

/-! ### ckpt_Check: function 16 -/
theorem goesLV_ {P : Program} {ops : Array Oper} {Q : Exit → Act → World → Prop} {rest : List Oper} {oi : Oper} {a : Act} {w : World} (N : Option Tmp) (hd : oi.dst = N) (hg : oi.guard = none) {f : FuncId} {fn : Func} {op : Operand} {asz : Array Operand} {ts : Array TypeId} (hf : P.funcs[f]? = some fn) (hname : (fn.name == "runtime.NumGoroutine") = false) (hb : fn.body.isSome = true) (first cap args all : Array Value) (hall : first ++ args ++ cap = all)
    (hop : oi.op = .call { callee := .value op, args := asz, argTypes := ts }) (hfun : a.eval op = .func (.func f) first cap) (hargs : asz.map a.eval = args)
    (h : Calls P f all w fun e w' => ∃ v, e = .returned v ∧ wpList P ops Q rest (a.put N v) w') : wpList P ops Q (oi :: rest) a w := by
  refine wpList_plain hg fun K hK => ?_
  subst hall
  have he := enters_ hf hname hb (first ++ args ++ cap) w
  have hrun : (execOp a.eval oi).run P w = .ok (.enter f (first ++ args ++ cap)) w := by
    unfold execOp
    rw [Array.append_assoc] at he ⊢
    simp [hop, resolve, Deferred.ofValue, invoke, hfun, hargs, he]
  unfold Oper.wp
  rw [hrun, Oper.upon_enter]
  refine h.mono fun e w'' hh => ?_
  obtain ⟨v, rfl, hk⟩ := hh
  subst hd
  exact hK _ _ hk
structure Keep (bm bc bl ol cl n k : Nat) (c : Array Value) (ub uo uc eb eo ec : Nat → Nat) (w : World) : Prop where
  hc : w.heap[bc]? = some (.cells c 23 (0, 0))
  h9 : w.cell? ⟨bm, 9, none⟩ = some (.slice (some ⟨bl, ol, none⟩) n cl)
  hu : ∀ i, i < n → w.cell? ⟨bl, ol + i * 9 + 7, none⟩ = some (.slice (some ⟨ub i, uo i, none⟩) k (uc i))
  hd : ∀ i, i < n → w.cell? ⟨bl, ol + i * 9 + 8, none⟩ = some (.slice (some ⟨eb i, eo i, none⟩) k (ec i))
structure Visits (Pt : Addr → Prop) (F : FuncId) (caps : Array Value) (bm bc bl ol cl n k : Nat) (c : Array Value) (ub uo uc eb eo ec : Nat → Nat) (I : List (Addr × Int) → World → Prop) : Prop where
  drewN : ∀ l W m, I l W → I l (W.drewN m)
  drew : ∀ l W, I l W → I l W.drew
  keep : ∀ l W, I l W → Keep bm bc bl ol cl n k c ub uo uc eb eo ec W
  p8 : Pt ⟨bm, 8, none⟩
  p10 : Pt ⟨bm, 10, none⟩
  p11 : Pt ⟨bm, 11, none⟩
  pl : ∀ i, i < n → ∀ q, q < 7 → Pt ⟨bl, ol + i * 9 + q, none⟩
  pu : ∀ i, i < n → ∀ j, j < k → Pt ⟨ub i, uo i + j, none⟩
  pe : ∀ i, i < n → ∀ j, j < k → Pt ⟨eb i, eo i + j, none⟩
  step : ∀ l p n x W, Pt p → n = x → l.length < 128 → I l W → Calls Try.prog F (#[.pointer (some p), .int .i64 n] ++ caps) W fun e w' => (∃ u, e = .returned u) ∧ I (l ++ [(p, x)]) w'
def layerL (bl ol k : Nat) (ub uo eb eo : Nat → Nat) (c0 c4 c5 : Int) (i : Nat) : List (Addr × Int) :=
  [(⟨bl, ol + i * 9, none⟩, c0), (⟨bl, ol + i * 9 + 1, none⟩, c0 * c0), (⟨bl, ol + i * 9 + 2, none⟩, c0 * c0), (⟨bl, ol + i * 9 + 3, none⟩, c0 * c0), (⟨bl, ol + i * 9 + 4, none⟩, c0 * c0), (⟨bl, ol + i * 9 + 5, none⟩, c0), (⟨bl, ol + i * 9 + 6, none⟩, c5 * c0)] ++ (List.range k).flatMap fun j => [(⟨ub i, uo i + j, none⟩, c4 * c0), (⟨eb i, eo i + j, none⟩, c4 * c0)]
def visitL (bm bl ol n k : Nat) (ub uo eb eo : Nat → Nat) (c0 c3 c4 c5 : Int) : List (Addr × Int) :=
  [(⟨bm, 8, none⟩, c3 * c0)] ++ (List.range n).flatMap (layerL bl ol k ub uo eb eo c0 c4 c5) ++ [(⟨bm, 10, none⟩, c0)] ++ [(⟨bm, 11, none⟩, c3 * c0)]
theorem lay_len (bl ol k : Nat) (ub uo eb eo : Nat → Nat) (c0 c4 c5 : Int) (i : Nat) (hi : i ≤ 2) (hk : k ≤ 4) : ((List.range i).flatMap (layerL bl ol k ub uo eb eo c0 c4 c5)).length ≤ 30 := by
  have h1 : ∀ i, (layerL bl ol k ub uo eb eo c0 c4 c5 i).length ≤ 15 := by
    intro i
    have : ∀ j, ((List.range j).flatMap fun j => [((⟨ub i, uo i + j, none⟩ : Addr), c4 * c0), (⟨eb i, eo i + j, none⟩, c4 * c0)]).length = 2 * j := by
      intro j
      induction j with
      | zero => rfl
      | succ j ih => rw [List.range_succ, List.flatMap_append, List.length_append, ih]; simp; omega
    simp only [layerL, List.length_append, List.length_cons, List.length_nil, this]
    omega
  have h2 : ∀ i, ((List.range i).flatMap (layerL bl ol k ub uo eb eo c0 c4 c5)).length ≤ 15 * i := by
    intro i
    induction i with
    | zero => simp
    | succ i ih => rw [List.range_succ, List.flatMap_append, List.length_append]; have := h1 i; simp only [List.flatMap_cons, List.flatMap_nil, List.append_nil]; omega
  have := h2 i
  omega
theorem pair_len {α : Type} (f g : Nat → α) (j : Nat) (hj : j ≤ 4) : ((List.range j).flatMap fun j => [f j, g j]).length ≤ 8 := by
  have : ∀ j, ((List.range j).flatMap fun j => [f j, g j]).length = 2 * j := by
    intro j
    induction j with
    | zero => rfl
    | succ j ih => rw [List.range_succ, List.flatMap_append, List.length_append, ih]; simp; omega
  rw [this]
  omega
set_option maxHeartbeats 8000000 in
set_option maxRecDepth 100000 in
theorem ckpt_visit.all (F : FuncId) (fn : Func) (caps : Array Value) (hF : Try.prog.funcs[F]? = some fn) (hFn : (fn.name == "runtime.NumGoroutine") = false) (hFb : fn.body.isSome = true) (bm bl ol cl n k : Nat) (ub uo uc eb eo ec : Nat → Nat) (c0 c1 c2 c3 c4 c5 c6 c7 : Int) (x8 x10 x11 : Value) (w : World) (hn2 : n ≤ 2) (hk4 : k ≤ 4) (w30 : Aside0 (wrap64 (c3 * c0) = c3 * c0)) (w00 : Aside0 (wrap64 (c0 * c0) = c0 * c0)) (w50 : Aside0 (wrap64 (c5 * c0) = c5 * c0)) (w40 : Aside0 (wrap64 (c4 * c0) = c4 * c0)) (I : List (Addr × Int) → World → Prop)
    (hm : w.heap[bm]? = some (.cells #[.int .i64 c0, .int .i64 c1, .int .i64 c2, .int .i64 c3, .int .i64 c4, .int .i64 c5, .int .i64 c6, .int .i64 c7, x8, .slice (some ⟨bl, ol, none⟩) n cl, x10, x11] 29 (0, 0)))
    (Pt : Addr → Prop) (HS : Visits Pt F caps bm w.heap.size bl ol cl n k #[.int .i64 c0, .int .i64 c1, .int .i64 c2, .int .i64 c3, .int .i64 c4, .int .i64 c5, .int .i64 c6, .int .i64 c7] ub uo uc eb eo ec I)
    (h0 : I [] (w.alloc (.cells #[.int .i64 c0, .int .i64 c1, .int .i64 c2, .int .i64 c3, .int .i64 c4, .int .i64 c5, .int .i64 c6, .int .i64 c7] 23))) :
    Calls Try.prog 30 #[.pointer (some ⟨bm, 0, none⟩), .func (.func F) #[] caps] w fun e w' => (∃ u, e = .returned u) ∧ I (visitL bm bl ol n k ub uo eb eo c0 c3 c4 c5) w' := by
  have hu23 := Try.underlying23
  have hu29 := Try.underlying29
  have hu59 := Try.underlying59
  have hx0 : w.cell? ⟨bm, 0, none⟩ = some (.int .i64 c0) := (blk_cell hm 0).trans rfl
  have hx1 : w.cell? ⟨bm, 1, none⟩ = some (.int .i64 c1) := (blk_cell hm 1).trans rfl
  have hx2 : w.cell? ⟨bm, 2, none⟩ = some (.int .i64 c2) := (blk_cell hm 2).trans rfl
  have hx3 : w.cell? ⟨bm, 3, none⟩ = some (.int .i64 c3) := (blk_cell hm 3).trans rfl
  have hx4 : w.cell? ⟨bm, 4, none⟩ = some (.int .i64 c4) := (blk_cell hm 4).trans rfl
  have hx5 : w.cell? ⟨bm, 5, none⟩ = some (.int .i64 c5) := (blk_cell hm 5).trans rfl
  have hx6 : w.cell? ⟨bm, 6, none⟩ = some (.int .i64 c6) := (blk_cell hm 6).trans rfl
  have hx7 : w.cell? ⟨bm, 7, none⟩ = some (.int .i64 c7) := (blk_cell hm 7).trans rfl
  have hf0 := blk_frozen hm 0
  clear hm
  have H0 := Aside0.mk h0
  clear h0
  go_enter Try.func30, Try.ntmps30
  go_wp2
  have hV := H0.out
  clear hx0 hx1 hx2 hx3 hx4 hx5 hx6 hx7 hf0 H0
  generalize w.heap.size = bc at *
  generalize w.alloc _ = w1 at hV ⊢
  have HV := Aside0.mk hV
  clear hV
  have hy0 : w1.cell? ⟨bc, 0, none⟩ = some (.int .i64 c0) := (blk_cell (HS.keep _ _ HV.out).hc 0).trans rfl; have hy3 : w1.cell? ⟨bc, 3, none⟩ = some (.int .i64 c3) := (blk_cell (HS.keep _ _ HV.out).hc 3).trans rfl; have hy4 : w1.cell? ⟨bc, 4, none⟩ = some (.int .i64 c4) := (blk_cell (HS.keep _ _ HV.out).hc 4).trans rfl; have hy5 : w1.cell? ⟨bc, 5, none⟩ = some (.int .i64 c5) := (blk_cell (HS.keep _ _ HV.out).hc 5).trans rfl; have hy9 : w1.cell? ⟨bm, 9, none⟩ = some (.slice (some ⟨bl, ol, none⟩) n cl) := (HS.keep _ _ HV.out).h9
  go_quiet (fail)
  have HV2 := Aside0.mk (HS.drewN _ _ nq HV.out)
  clear HV
  clear hy0 hy3 hy4 hy5 hy9
  have HV := HV2
  clear HV2
  generalize w1.drewN nq = w2 at HV ⊢
  have hy0 : w2.cell? ⟨bc, 0, none⟩ = some (.int .i64 c0) := (blk_cell (HS.keep _ _ HV.out).hc 0).trans rfl; have hy3 : w2.cell? ⟨bc, 3, none⟩ = some (.int .i64 c3) := (blk_cell (HS.keep _ _ HV.out).hc 3).trans rfl; have hy4 : w2.cell? ⟨bc, 4, none⟩ = some (.int .i64 c4) := (blk_cell (HS.keep _ _ HV.out).hc 4).trans rfl; have hy5 : w2.cell? ⟨bc, 5, none⟩ = some (.int .i64 c5) := (blk_cell (HS.keep _ _ HV.out).hc 5).trans rfl; have hy9 : w2.cell? ⟨bm, 9, none⟩ = some (.slice (some ⟨bl, ol, none⟩) n cl) := (HS.keep _ _ HV.out).h9
  go_wp2
  go_still_tail 9, (by kernel_rfl)
  change wpList _ _ _ _ _ w2.drew
  go_wp2_with (first | ((with_reducible refine gate_dst (N := 33) rfl ?_); refine goesLV_ (some 33) rfl rfl hF hFn hFb #[] caps #[.pointer (some ⟨bm, 8, none⟩), .int .i64 (IntKind.i64.wrap (c3 * c0))] (#[.pointer (some ⟨bm, 8, none⟩), .int .i64 (IntKind.i64.wrap (c3 * c0))] ++ caps) (by simp) rfl rfl (by (try simp only [List.map_toArray, List.map_cons, List.map_nil]); rfl) ?_; (try simp only [i64_w]); refine (HS.step _ _ _ (c3 * c0) _ HS.p8 w30.out (by simp) (HS.drew _ _ HV.out)).mono ?_; rintro e w3 ⟨⟨uu, rfl⟩, hv⟩; refine ⟨_, rfl, ?_⟩; have HV2 := Aside0.mk hv; clear hv; clear HV; have HV := HV2; clear HV2; clear hy0 hy3 hy4 hy5 hy9; have hy0 : w3.cell? ⟨bc, 0, none⟩ = some (.int .i64 c0) := (blk_cell (HS.keep _ _ HV.out).hc 0).trans rfl; have hy3 : w3.cell? ⟨bc, 3, none⟩ = some (.int .i64 c3) := (blk_cell (HS.keep _ _ HV.out).hc 3).trans rfl; have hy4 : w3.cell? ⟨bc, 4, none⟩ = some (.int .i64 c4) := (blk_cell (HS.keep _ _ HV.out).hc 4).trans rfl; have hy5 : w3.cell? ⟨bc, 5, none⟩ = some (.int .i64 c5) := (blk_cell (HS.keep _ _ HV.out).hc 5).trans rfl; have hy9 : w3.cell? ⟨bm, 9, none⟩ = some (.slice (some ⟨bl, ol, none⟩) n cl) := (HS.keep _ _ HV.out).h9))
  go_loopg [39] n (fun kq v39 wr => ∃ i : Nat, v39 = .int .i64 (i : Int) ∧ i + kq = n ∧ Aside0 (I ([] ++ [(⟨bm, 8, none⟩, c3 * c0)] ++ (List.range i).flatMap (layerL bl ol k ub uo eb eo c0 c4 c5)) wr))
  case atStart =>
    refine ⟨0, rfl, by omega, ⟨?_⟩⟩
    have h := HV.out
    simpa using h
  case round =>
    obtain ⟨i, rfl, hik, HV0⟩ := hrel
    clear HV
    have HV := HV0
    clear HV0
    clear hy0 hy3 hy4 hy5 hy9
    have hy0 : wr.cell? ⟨bc, 0, none⟩ = some (.int .i64 c0) := (blk_cell (HS.keep _ _ HV.out).hc 0).trans rfl; have hy3 : wr.cell? ⟨bc, 3, none⟩ = some (.int .i64 c3) := (blk_cell (HS.keep _ _ HV.out).hc 3).trans rfl; have hy4 : wr.cell? ⟨bc, 4, none⟩ = some (.int .i64 c4) := (blk_cell (HS.keep _ _ HV.out).hc 4).trans rfl; have hy5 : wr.cell? ⟨bc, 5, none⟩ = some (.int .i64 c5) := (blk_cell (HS.keep _ _ HV.out).hc 5).trans rfl; have hy9 : wr.cell? ⟨bm, 9, none⟩ = some (.slice (some ⟨bl, ol, none⟩) n cl) := (HS.keep _ _ HV.out).h9
    by_cases ci : i < n
    · have cb : decide ((i : Int) < (n : Int)) = true := decide_eq_true (by omega)
      have cp := eq_true (show 0 ≤ (i : Int) by omega)
      have cq := eq_true (show (i : Int) < (n : Int) by omega)
      go_wp2
      go_still_tail 6, (by kernel_rfl)
      change wpList _ _ _ _ _ wr.drew
      go_wp2_with (first | ((with_reducible refine gate_dst (N := 54) rfl ?_); refine goesLV_ (some 54) rfl rfl hF hFn hFb #[] caps #[.pointer (some ⟨bl, ol + i * 9, none⟩), .int .i64 (c0)] (#[.pointer (some ⟨bl, ol + i * 9, none⟩), .int .i64 (c0)] ++ caps) (by simp) rfl rfl (by (try simp only [List.map_toArray, List.map_cons, List.map_nil]); rfl) ?_; (try simp only [i64_w]); refine (HS.step _ _ _ (c0) _ (HS.pl i ci 0 (by decide)) (rfl) (by have h7_ := lay_len bl ol k ub uo eb eo c0 c4 c5 i (by omega) hk4; simp only [List.length_append, List.length_cons, List.length_nil]; omega) (HS.drew _ _ HV.out)).mono ?_; rintro e wn ⟨⟨uu, rfl⟩, hv⟩; refine ⟨_, rfl, ?_⟩; have HV2 := Aside0.mk hv; clear hv; clear HV; have HV := HV2; clear HV2; clear hy0 hy3 hy4 hy5 hy9; have hy0 : wn.cell? ⟨bc, 0, none⟩ = some (.int .i64 c0) := (blk_cell (HS.keep _ _ HV.out).hc 0).trans rfl; have hy3 : wn.cell? ⟨bc, 3, none⟩ = some (.int .i64 c3) := (blk_cell (HS.keep _ _ HV.out).hc 3).trans rfl; have hy4 : wn.cell? ⟨bc, 4, none⟩ = some (.int .i64 c4) := (blk_cell (HS.keep _ _ HV.out).hc 4).trans rfl; have hy5 : wn.cell? ⟨bc, 5, none⟩ = some (.int .i64 c5) := (blk_cell (HS.keep _ _ HV.out).hc 5).trans rfl; have hy9 : wn.cell? ⟨bm, 9, none⟩ = some (.slice (some ⟨bl, ol, none⟩) n cl) := (HS.keep _ _ HV.out).h9) | ((with_reducible refine gate_dst (N := 60) rfl ?_); refine goesLV_ (some 60) rfl rfl hF hFn hFb #[] caps #[.pointer (some ⟨bl, ol + i * 9 + 1, none⟩), .int .i64 (wrap64 (c0 * c0))] (#[.pointer (some ⟨bl, ol + i * 9 + 1, none⟩), .int .i64 (wrap64 (c0 * c0))] ++ caps) (by simp) rfl rfl (by (try simp only [List.map_toArray, List.map_cons, List.map_nil]); rfl) ?_; (try simp only [i64_w]); refine (HS.step _ _ _ (c0 * c0) _ (HS.pl i ci 1 (by decide)) w00.out (by have h7_ := lay_len bl ol k ub uo eb eo c0 c4 c5 i (by omega) hk4; simp only [List.length_append, List.length_cons, List.length_nil]; omega) HV.out).mono ?_; rintro e wn ⟨⟨uu, rfl⟩, hv⟩; refine ⟨_, rfl, ?_⟩; have HV2 := Aside0.mk hv; clear hv; clear HV; have HV := HV2; clear HV2; clear hy0 hy3 hy4 hy5 hy9; have hy0 : wn.cell? ⟨bc, 0, none⟩ = some (.int .i64 c0) := (blk_cell (HS.keep _ _ HV.out).hc 0).trans rfl; have hy3 : wn.cell? ⟨bc, 3, none⟩ = some (.int .i64 c3) := (blk_cell (HS.keep _ _ HV.out).hc 3).trans rfl; have hy4 : wn.cell? ⟨bc, 4, none⟩ = some (.int .i64 c4) := (blk_cell (HS.keep _ _ HV.out).hc 4).trans rfl; have hy5 : wn.cell? ⟨bc, 5, none⟩ = some (.int .i64 c5) := (blk_cell (HS.keep _ _ HV.out).hc 5).trans rfl; have hy9 : wn.cell? ⟨bm, 9, none⟩ = some (.slice (some ⟨bl, ol, none⟩) n cl) := (HS.keep _ _ HV.out).h9) | ((with_reducible refine gate_dst (N := 66) rfl ?_); refine goesLV_ (some 66) rfl rfl hF hFn hFb #[] caps #[.pointer (some ⟨bl, ol + i * 9 + 2, none⟩), .int .i64 (wrap64 (c0 * c0))] (#[.pointer (some ⟨bl, ol + i * 9 + 2, none⟩), .int .i64 (wrap64 (c0 * c0))] ++ caps) (by simp) rfl rfl (by (try simp only [List.map_toArray, List.map_cons, List.map_nil]); rfl) ?_; (try simp only [i64_w]); refine (HS.step _ _ _ (c0 * c0) _ (HS.pl i ci 2 (by decide)) w00.out (by have h7_ := lay_len bl ol k ub uo eb eo c0 c4 c5 i (by omega) hk4; simp only [List.length_append, List.length_cons, List.length_nil]; omega) HV.out).mono ?_; rintro e wn ⟨⟨uu, rfl⟩, hv⟩; refine ⟨_, rfl, ?_⟩; have HV2 := Aside0.mk hv; clear hv; clear HV; have HV := HV2; clear HV2; clear hy0 hy3 hy4 hy5 hy9; have hy0 : wn.cell? ⟨bc, 0, none⟩ = some (.int .i64 c0) := (blk_cell (HS.keep _ _ HV.out).hc 0).trans rfl; have hy3 : wn.cell? ⟨bc, 3, none⟩ = some (.int .i64 c3) := (blk_cell (HS.keep _ _ HV.out).hc 3).trans rfl; have hy4 : wn.cell? ⟨bc, 4, none⟩ = some (.int .i64 c4) := (blk_cell (HS.keep _ _ HV.out).hc 4).trans rfl; have hy5 : wn.cell? ⟨bc, 5, none⟩ = some (.int .i64 c5) := (blk_cell (HS.keep _ _ HV.out).hc 5).trans rfl; have hy9 : wn.cell? ⟨bm, 9, none⟩ = some (.slice (some ⟨bl, ol, none⟩) n cl) := (HS.keep _ _ HV.out).h9) | ((with_reducible refine gate_dst (N := 72) rfl ?_); refine goesLV_ (some 72) rfl rfl hF hFn hFb #[] caps #[.pointer (some ⟨bl, ol + i * 9 + 3, none⟩), .int .i64 (wrap64 (c0 * c0))] (#[.pointer (some ⟨bl, ol + i * 9 + 3, none⟩), .int .i64 (wrap64 (c0 * c0))] ++ caps) (by simp) rfl rfl (by (try simp only [List.map_toArray, List.map_cons, List.map_nil]); rfl) ?_; (try simp only [i64_w]); refine (HS.step _ _ _ (c0 * c0) _ (HS.pl i ci 3 (by decide)) w00.out (by have h7_ := lay_len bl ol k ub uo eb eo c0 c4 c5 i (by omega) hk4; simp only [List.length_append, List.length_cons, List.length_nil]; omega) HV.out).mono ?_; rintro e wn ⟨⟨uu, rfl⟩, hv⟩; refine ⟨_, rfl, ?_⟩; have HV2 := Aside0.mk hv; clear hv; clear HV; have HV := HV2; clear HV2; clear hy0 hy3 hy4 hy5 hy9; have hy0 : wn.cell? ⟨bc, 0, none⟩ = some (.int .i64 c0) := (blk_cell (HS.keep _ _ HV.out).hc 0).trans rfl; have hy3 : wn.cell? ⟨bc, 3, none⟩ = some (.int .i64 c3) := (blk_cell (HS.keep _ _ HV.out).hc 3).trans rfl; have hy4 : wn.cell? ⟨bc, 4, none⟩ = some (.int .i64 c4) := (blk_cell (HS.keep _ _ HV.out).hc 4).trans rfl; have hy5 : wn.cell? ⟨bc, 5, none⟩ = some (.int .i64 c5) := (blk_cell (HS.keep _ _ HV.out).hc 5).trans rfl; have hy9 : wn.cell? ⟨bm, 9, none⟩ = some (.slice (some ⟨bl, ol, none⟩) n cl) := (HS.keep _ _ HV.out).h9) | ((with_reducible refine gate_dst (N := 78) rfl ?_); refine goesLV_ (some 78) rfl rfl hF hFn hFb #[] caps #[.pointer (some ⟨bl, ol + i * 9 + 4, none⟩), .int .i64 (wrap64 (c0 * c0))] (#[.pointer (some ⟨bl, ol + i * 9 + 4, none⟩), .int .i64 (wrap64 (c0 * c0))] ++ caps) (by simp) rfl rfl (by (try simp only [List.map_toArray, List.map_cons, List.map_nil]); rfl) ?_; (try simp only [i64_w]); refine (HS.step _ _ _ (c0 * c0) _ (HS.pl i ci 4 (by decide)) w00.out (by have h7_ := lay_len bl ol k ub uo eb eo c0 c4 c5 i (by omega) hk4; simp only [List.length_append, List.length_cons, List.length_nil]; omega) HV.out).mono ?_; rintro e wn ⟨⟨uu, rfl⟩, hv⟩; refine ⟨_, rfl, ?_⟩; have HV2 := Aside0.mk hv; clear hv; clear HV; have HV := HV2; clear HV2; clear hy0 hy3 hy4 hy5 hy9; have hy0 : wn.cell? ⟨bc, 0, none⟩ = some (.int .i64 c0) := (blk_cell (HS.keep _ _ HV.out).hc 0).trans rfl; have hy3 : wn.cell? ⟨bc, 3, none⟩ = some (.int .i64 c3) := (blk_cell (HS.keep _ _ HV.out).hc 3).trans rfl; have hy4 : wn.cell? ⟨bc, 4, none⟩ = some (.int .i64 c4) := (blk_cell (HS.keep _ _ HV.out).hc 4).trans rfl; have hy5 : wn.cell? ⟨bc, 5, none⟩ = some (.int .i64 c5) := (blk_cell (HS.keep _ _ HV.out).hc 5).trans rfl; have hy9 : wn.cell? ⟨bm, 9, none⟩ = some (.slice (some ⟨bl, ol, none⟩) n cl) := (HS.keep _ _ HV.out).h9))
      go_still_tail 6, (by kernel_rfl)
      change wpList _ _ _ _ _ wn.drew
      go_wp2_with (first | ((with_reducible refine gate_dst (N := 85) rfl ?_); refine goesLV_ (some 85) rfl rfl hF hFn hFb #[] caps #[.pointer (some ⟨bl, ol + i * 9 + 5, none⟩), .int .i64 (c0)] (#[.pointer (some ⟨bl, ol + i * 9 + 5, none⟩), .int .i64 (c0)] ++ caps) (by simp) rfl rfl (by (try simp only [List.map_toArray, List.map_cons, List.map_nil]); rfl) ?_; (try simp only [i64_w]); refine (HS.step _ _ _ (c0) _ (HS.pl i ci 5 (by decide)) (rfl) (by have h7_ := lay_len bl ol k ub uo eb eo c0 c4 c5 i (by omega) hk4; simp only [List.length_append, List.length_cons, List.length_nil]; omega) (HS.drew _ _ HV.out)).mono ?_; rintro e wn ⟨⟨uu, rfl⟩, hv⟩; refine ⟨_, rfl, ?_⟩; have HV2 := Aside0.mk hv; clear hv; clear HV; have HV := HV2; clear HV2; clear hy0 hy3 hy4 hy5 hy9; have hy0 : wn.cell? ⟨bc, 0, none⟩ = some (.int .i64 c0) := (blk_cell (HS.keep _ _ HV.out).hc 0).trans rfl; have hy3 : wn.cell? ⟨bc, 3, none⟩ = some (.int .i64 c3) := (blk_cell (HS.keep _ _ HV.out).hc 3).trans rfl; have hy4 : wn.cell? ⟨bc, 4, none⟩ = some (.int .i64 c4) := (blk_cell (HS.keep _ _ HV.out).hc 4).trans rfl; have hy5 : wn.cell? ⟨bc, 5, none⟩ = some (.int .i64 c5) := (blk_cell (HS.keep _ _ HV.out).hc 5).trans rfl; have hy9 : wn.cell? ⟨bm, 9, none⟩ = some (.slice (some ⟨bl, ol, none⟩) n cl) := (HS.keep _ _ HV.out).h9))
      go_still_tail 9, (by kernel_rfl)
      change wpList _ _ _ _ _ wn.drew
      go_wp2_with (first | ((with_reducible refine gate_dst (N := 95) rfl ?_); refine goesLV_ (some 95) rfl rfl hF hFn hFb #[] caps #[.pointer (some ⟨bl, ol + i * 9 + 6, none⟩), .int .i64 (IntKind.i64.wrap (c5 * c0))] (#[.pointer (some ⟨bl, ol + i * 9 + 6, none⟩), .int .i64 (IntKind.i64.wrap (c5 * c0))] ++ caps) (by simp) rfl rfl (by (try simp only [List.map_toArray, List.map_cons, List.map_nil]); rfl) ?_; (try simp only [i64_w]); refine (HS.step _ _ _ (c5 * c0) _ (HS.pl i ci 6 (by decide)) w50.out (by have h7_ := lay_len bl ol k ub uo eb eo c0 c4 c5 i (by omega) hk4; simp only [List.length_append, List.length_cons, List.length_nil]; omega) (HS.drew _ _ HV.out)).mono ?_; rintro e wn ⟨⟨uu, rfl⟩, hv⟩; refine ⟨_, rfl, ?_⟩; have HV2 := Aside0.mk hv; clear hv; clear HV; have HV := HV2; clear HV2; clear hy0 hy3 hy4 hy5 hy9; have hy0 : wn.cell? ⟨bc, 0, none⟩ = some (.int .i64 c0) := (blk_cell (HS.keep _ _ HV.out).hc 0).trans rfl; have hy3 : wn.cell? ⟨bc, 3, none⟩ = some (.int .i64 c3) := (blk_cell (HS.keep _ _ HV.out).hc 3).trans rfl; have hy4 : wn.cell? ⟨bc, 4, none⟩ = some (.int .i64 c4) := (blk_cell (HS.keep _ _ HV.out).hc 4).trans rfl; have hy5 : wn.cell? ⟨bc, 5, none⟩ = some (.int .i64 c5) := (blk_cell (HS.keep _ _ HV.out).hc 5).trans rfl; have hy9 : wn.cell? ⟨bm, 9, none⟩ = some (.slice (some ⟨bl, ol, none⟩) n cl) := (HS.keep _ _ HV.out).h9; have hy7 : wn.cell? ⟨bl, ol + i * 9 + 7, none⟩ = some (.slice (some ⟨ub i, uo i, none⟩) k (uc i)) := (HS.keep _ _ HV.out).hu i ci; have hy8 : wn.cell? ⟨bl, ol + i * 9 + 8, none⟩ = some (.slice (some ⟨eb i, eo i, none⟩) k (ec i)) := (HS.keep _ _ HV.out).hd i ci))
      obtain ⟨T2, hT2⟩ : ∃ T2 : List (Addr × Int), T2 = ([] ++ [(⟨bm, 8, none⟩, c3 * c0)] ++ (List.range i).flatMap (layerL bl ol k ub uo eb eo c0 c4 c5) ++ [(⟨bl, ol + i * 9, none⟩, c0)] ++ [(⟨bl, ol + i * 9 + 1, none⟩, c0 * c0)] ++ [(⟨bl, ol + i * 9 + 2, none⟩, c0 * c0)] ++ [(⟨bl, ol + i * 9 + 3, none⟩, c0 * c0)] ++ [(⟨bl, ol + i * 9 + 4, none⟩, c0 * c0)] ++ [(⟨bl, ol + i * 9 + 5, none⟩, c0)] ++ [(⟨bl, ol + i * 9 + 6, none⟩, c5 * c0)]) := ⟨_, rfl⟩
      have HV2 : Aside0 (I T2 wn) := by rw [hT2]; exact HV
      clear HV
      have HV := HV2
      clear HV2
      have TL : Aside0 (T2.length ≤ 40) := ⟨by rw [hT2]; have h7_ := lay_len bl ol k ub uo eb eo c0 c4 c5 i (by omega) hk4; simp only [List.length_append, List.length_cons, List.length_nil]; omega⟩
      have KT := Aside0.mk hT2
      clear hT2
      go_loopg [101] k (fun kq v101 wr2 => ∃ j : Nat, v101 = .int .i64 (j : Int) ∧ j + kq = k ∧ Aside0 (I (T2 ++ (List.range j).flatMap (fun j => [(⟨ub i, uo i + j, none⟩, c4 * c0), (⟨eb i, eo i + j, none⟩, c4 * c0)])) wr2))
      case atStart =>
        refine ⟨0, rfl, by omega, ⟨?_⟩⟩
        have h := HV.out
        simpa using h
      case round =>
        obtain ⟨j, rfl, hjk, HV0⟩ := hrel
        clear HV
        have HV := HV0
        clear HV0
        clear hy0 hy3 hy4 hy5 hy9 hy7 hy8
        have hy7 : wr.cell? ⟨bl, ol + i * 9 + 7, none⟩ = some (.slice (some ⟨ub i, uo i, none⟩) k (uc i)) := (HS.keep _ _ HV.out).hu i ci
        have hy8 : wr.cell? ⟨bl, ol + i * 9 + 8, none⟩ = some (.slice (some ⟨eb i, eo i, none⟩) k (ec i)) := (HS.keep _ _ HV.out).hd i ci
        by_cases cj : j < k
        · have cb2 : decide ((j : Int) < (k : Int)) = true := decide_eq_true (by omega)
          have cp2 := eq_true (show 0 ≤ (j : Int) by omega)
          have cq2 := eq_true (show (j : Int) < (k : Int) by omega)
          go_wp2_with (first | ((with_reducible refine gate_dst (N := 112) rfl ?_); refine goesLV_ (some 112) rfl rfl hF hFn hFb #[] caps #[.pointer (some ⟨ub i, uo i + j, none⟩), .int .i64 (wrap64 (c4 * c0))] (#[.pointer (some ⟨ub i, uo i + j, none⟩), .int .i64 (wrap64 (c4 * c0))] ++ caps) (by simp) rfl rfl (by (try simp only [List.map_toArray, List.map_cons, List.map_nil]); rfl) ?_; (try simp only [i64_w]); refine (HS.step _ _ _ (c4 * c0) _ (HS.pu i ci j cj) w40.out (by have h7_ := TL.out; have h8_ := pair_len (fun j => ((⟨ub i, uo i + j, none⟩ : Addr), c4 * c0)) (fun j => ((⟨eb i, eo i + j, none⟩ : Addr), c4 * c0)) j (by omega); simp only [List.length_append, List.length_cons, List.length_nil]; omega) HV.out).mono ?_; rintro e wn ⟨⟨uu, rfl⟩, hv⟩; refine ⟨_, rfl, ?_⟩; have HV2 := Aside0.mk hv; clear hv; clear HV; have HV := HV2; clear HV2; clear hy7 hy8; have hy7 : wn.cell? ⟨bl, ol + i * 9 + 7, none⟩ = some (.slice (some ⟨ub i, uo i, none⟩) k (uc i)) := (HS.keep _ _ HV.out).hu i ci; have hy8 : wn.cell? ⟨bl, ol + i * 9 + 8, none⟩ = some (.slice (some ⟨eb i, eo i, none⟩) k (ec i)) := (HS.keep _ _ HV.out).hd i ci) | ((with_reducible refine gate_dst (N := 121) rfl ?_); refine goesLV_ (some 121) rfl rfl hF hFn hFb #[] caps #[.pointer (some ⟨eb i, eo i + j, none⟩), .int .i64 (wrap64 (c4 * c0))] (#[.pointer (some ⟨eb i, eo i + j, none⟩), .int .i64 (wrap64 (c4 * c0))] ++ caps) (by simp) rfl rfl (by (try simp only [List.map_toArray, List.map_cons, List.map_nil]); rfl) ?_; (try simp only [i64_w]); refine (HS.step _ _ _ (c4 * c0) _ (HS.pe i ci j cj) w40.out (by have h7_ := TL.out; have h8_ := pair_len (fun j => ((⟨ub i, uo i + j, none⟩ : Addr), c4 * c0)) (fun j => ((⟨eb i, eo i + j, none⟩ : Addr), c4 * c0)) j (by omega); simp only [List.length_append, List.length_cons, List.length_nil]; omega) HV.out).mono ?_; rintro e wn ⟨⟨uu, rfl⟩, hv⟩; refine ⟨_, rfl, ?_⟩; have HV2 := Aside0.mk hv; clear hv; clear HV; have HV := HV2; clear HV2; clear hy7 hy8; have hy7 : wn.cell? ⟨bl, ol + i * 9 + 7, none⟩ = some (.slice (some ⟨ub i, uo i, none⟩) k (uc i)) := (HS.keep _ _ HV.out).hu i ci; have hy8 : wn.cell? ⟨bl, ol + i * 9 + 8, none⟩ = some (.slice (some ⟨eb i, eo i, none⟩) k (ec i)) := (HS.keep _ _ HV.out).hd i ci))
          go_roundg (k - j - 1)
          case measure => omega
          case rel =>
            refine ⟨j + 1, by simp, by omega, ⟨?_⟩⟩
            have e1 : T2 ++ (List.range (j + 1)).flatMap (fun j => [(⟨ub i, uo i + j, none⟩, c4 * c0), (⟨eb i, eo i + j, none⟩, c4 * c0)]) = T2 ++ (List.range j).flatMap (fun j => [(⟨ub i, uo i + j, none⟩, c4 * c0), (⟨eb i, eo i + j, none⟩, c4 * c0)]) ++ [(⟨ub i, uo i + j, none⟩, c4 * c0)] ++ [(⟨eb i, eo i + j, none⟩, c4 * c0)] := by simp [List.range_succ, List.flatMap_append, List.append_assoc]
            rw [e1]
            exact HV.out
        · have cb2 : decide ((j : Int) < (k : Int)) = false := decide_eq_false (by omega)
          go_wp2
          obtain rfl : j = k := by omega
          go_roundg (n - i - 1)
          case measure => omega
          case rel =>
            refine ⟨i + 1, by simp, by omega, ⟨?_⟩⟩
            have e1 : [] ++ [(⟨bm, 8, none⟩, c3 * c0)] ++ (List.range (i + 1)).flatMap (layerL bl ol j ub uo eb eo c0 c4 c5) = T2 ++ (List.range j).flatMap (fun j => [(⟨ub i, uo i + j, none⟩, c4 * c0), (⟨eb i, eo i + j, none⟩, c4 * c0)]) := by
              rw [KT.out]
              simp [List.range_succ, List.flatMap_append, List.append_assoc, layerL]
            rw [e1]
            exact HV.out
    · have cb : decide ((i : Int) < (n : Int)) = false := decide_eq_false (by omega)
      go_wp2
      go_still_tail 6, (by kernel_rfl)
      change wpList _ _ _ _ _ wr.drew
      go_wp2_with (first | ((with_reducible refine gate_dst (N := 130) rfl ?_); refine goesLV_ (some 130) rfl rfl hF hFn hFb #[] caps #[.pointer (some ⟨bm, 10, none⟩), .int .i64 (c0)] (#[.pointer (some ⟨bm, 10, none⟩), .int .i64 (c0)] ++ caps) (by simp) rfl rfl (by (try simp only [List.map_toArray, List.map_cons, List.map_nil]); rfl) ?_; (try simp only [i64_w]); refine (HS.step _ _ _ (c0) _ HS.p10 (rfl) (by have h7_ := lay_len bl ol k ub uo eb eo c0 c4 c5 i (by omega) hk4; simp only [List.length_append, List.length_cons, List.length_nil]; omega) (HS.drew _ _ HV.out)).mono ?_; rintro e wn ⟨⟨uu, rfl⟩, hv⟩; refine ⟨_, rfl, ?_⟩; have HV2 := Aside0.mk hv; clear hv; clear HV; have HV := HV2; clear HV2; clear hy0 hy3 hy4 hy5 hy9; have hy0 : wn.cell? ⟨bc, 0, none⟩ = some (.int .i64 c0) := (blk_cell (HS.keep _ _ HV.out).hc 0).trans rfl; have hy3 : wn.cell? ⟨bc, 3, none⟩ = some (.int .i64 c3) := (blk_cell (HS.keep _ _ HV.out).hc 3).trans rfl; have hy4 : wn.cell? ⟨bc, 4, none⟩ = some (.int .i64 c4) := (blk_cell (HS.keep _ _ HV.out).hc 4).trans rfl; have hy5 : wn.cell? ⟨bc, 5, none⟩ = some (.int .i64 c5) := (blk_cell (HS.keep _ _ HV.out).hc 5).trans rfl; have hy9 : wn.cell? ⟨bm, 9, none⟩ = some (.slice (some ⟨bl, ol, none⟩) n cl) := (HS.keep _ _ HV.out).h9))
      go_still_tail 9, (by kernel_rfl)
      change wpList _ _ _ _ _ wn.drew
      go_wp2_with (first | ((with_reducible refine gate_dst (N := 140) rfl ?_); refine goesLV_ (some 140) rfl rfl hF hFn hFb #[] caps #[.pointer (some ⟨bm, 11, none⟩), .int .i64 (IntKind.i64.wrap (c3 * c0))] (#[.pointer (some ⟨bm, 11, none⟩), .int .i64 (IntKind.i64.wrap (c3 * c0))] ++ caps) (by simp) rfl rfl (by (try simp only [List.map_toArray, List.map_cons, List.map_nil]); rfl) ?_; (try simp only [i64_w]); refine (HS.step _ _ _ (c3 * c0) _ HS.p11 w30.out (by have h7_ := lay_len bl ol k ub uo eb eo c0 c4 c5 i (by omega) hk4; simp only [List.length_append, List.length_cons, List.length_nil]; omega) (HS.drew _ _ HV.out)).mono ?_; rintro e wn ⟨⟨uu, rfl⟩, hv⟩; refine ⟨_, rfl, ?_⟩; have HV2 := Aside0.mk hv; clear hv; clear HV; have HV := HV2; clear HV2; clear hy0 hy3 hy4 hy5 hy9; have hy0 : wn.cell? ⟨bc, 0, none⟩ = some (.int .i64 c0) := (blk_cell (HS.keep _ _ HV.out).hc 0).trans rfl; have hy3 : wn.cell? ⟨bc, 3, none⟩ = some (.int .i64 c3) := (blk_cell (HS.keep _ _ HV.out).hc 3).trans rfl; have hy4 : wn.cell? ⟨bc, 4, none⟩ = some (.int .i64 c4) := (blk_cell (HS.keep _ _ HV.out).hc 4).trans rfl; have hy5 : wn.cell? ⟨bc, 5, none⟩ = some (.int .i64 c5) := (blk_cell (HS.keep _ _ HV.out).hc 5).trans rfl; have hy9 : wn.cell? ⟨bm, 9, none⟩ = some (.slice (some ⟨bl, ol, none⟩) n cl) := (HS.keep _ _ HV.out).h9))
      go_end0
      obtain rfl : i = n := by omega
      exact ⟨⟨_, rfl⟩, by simpa [visitL] using HV.out⟩
theorem ck_get {l : List S59} {i : Nat} (h : i < l.length) : rd_T59 l (i : Int) = l[i] := by
  unfold rd_T59
  rw [Int.toNat_natCast, List.getD_eq_getElem?_getD, List.getElem?_eq_getElem h]
  rfl
theorem ck_take {l : List S59} {i : Nat} (h : i < l.length) : l.take (i + 1) = l.take i ++ [rd_T59 l (i : Int)] := by rw [List.take_succ_eq_append_getElem h, ck_get h]
/-- What stands in a row of numbers. -/
def contA (w : World) (A : Option Addr) (n : Nat) : List Int := (List.range n).map fun j => match A with | some a => (match w.cell? (a.add j) with | some (.int _ v) => v | _ => 0) | none => 0
def contAt (w : World) (p : Addr) : List Int := match w.cell? p with | some (.slice A n _) => contA w A n | _ => []
theorem contA_of {w : World} {A : Option Addr} {l : List Int} (h : (Kd.int .i8).C w A l.length l) : contA w A l.length = l := by
  apply List.ext_getElem
  · simp [contA]
  · intro i h1 h2
    obtain ⟨ad, c, rfl, hl, hK, hc⟩ := Kd.C_get h 0 (i : Int) (by omega) (by omega)
    have hK2 : c = [.int .i8 (l.getD (i : Int).toNat 0)] := hK
    have h3 := hc 0 (.int .i8 (l.getD (i : Int).toNat 0)) (by rw [hK2]; rfl)
    rw [Int.toNat_natCast] at h3
    have h4 : (Kd.int .i8).sz = 1 := rfl
    rw [h4, Nat.mul_one, Nat.add_zero] at h3
    simp only [contA, List.getElem_map, List.getElem_range, h3]
    rw [List.getD_eq_getElem?_getD, List.getElem?_eq_getElem h2]
    rfl
theorem contAt_of {w : World} {p : Addr} {A : Option Addr} {c : Nat} {l : List Int} (hp : w.cell? p = some (.slice A l.length c)) (h : (Kd.int .i8).C w A l.length l) : contAt w p = l := by
  unfold contAt
  rw [hp]
  exact contA_of h
theorem contAt_len {w : World} {p : Addr} {A : Option Addr} {n c : Nat} (hp : w.cell? p = some (.slice A n c)) : (contAt w p).length = n := by
  unfold contAt
  rw [hp]
  simp [contA]
def rowsL (k : Nat) (g : S59) : List (List Int) := [g.f0, g.f1, g.f2, g.f3, g.f4, g.f5, g.f6] ++ (List.range k).flatMap fun j => [g.f7.getD j [], g.f8.getD j []]
def rowsM (k : Nat) (e : List Int) (L : List S59) (nn o : List Int) : List (List Int) := [e] ++ L.flatMap (rowsL k) ++ [nn] ++ [o]
def sizesL (k : Nat) (c0 c4 c5 : Int) : List Int := [c0, c0 * c0, c0 * c0, c0 * c0, c0 * c0, c0, c5 * c0] ++ (List.range k).flatMap fun _ => [c4 * c0, c4 * c0]
def sizesM (n k : Nat) (c0 c3 c4 c5 : Int) : List Int := [c3 * c0] ++ (List.range n).flatMap (fun _ => sizesL k c0 c4 c5) ++ [c0] ++ [c3 * c0]
theorem visit_sizes (bm bl ol n k : Nat) (ub uo eb eo : Nat → Nat) (c0 c3 c4 c5 : Int) : (visitL bm bl ol n k ub uo eb eo c0 c3 c4 c5).map (·.2) = sizesM n k c0 c3 c4 c5 := by
  simp [visitL, sizesM, layerL, sizesL, List.map_flatMap]
theorem flatMap_congr_ {α β : Type} {f g : α → List β} : ∀ {l : List α}, (∀ x ∈ l, f x = g x) → l.flatMap f = l.flatMap g
  | [], _ => rfl
  | x :: l, h => by rw [List.flatMap_cons, List.flatMap_cons, h x (by simp), flatMap_congr_ (l := l) (fun y hy => h y (by simp [hy]))]
theorem range_flatMap_ {α β : Type} {f : Nat → List β} {g : α → List β} : ∀ {l : List α}, (∀ i (h : i < l.length), f i = g l[i]) → (List.range l.length).flatMap f = l.flatMap g
  | [], _ => rfl
  | x :: l, h => by
    rw [List.length_cons, List.range_succ_eq_map, List.flatMap_cons, List.flatMap_cons, List.flatMap_map]
    congr 1
    · exact h 0 (by simp)
    · exact range_flatMap_ (l := l) (f := fun i => f (i + 1)) (fun i hi => by have := h (i + 1) (by simp; omega); simpa using this)
/-- The layers' lists, where they stand. -/
structure LayAt (w : World) (bl ol k : Nat) (ub uo uc eb eo ec : Nat → Nat) (i : Nat) (g : S59) : Prop where
  c0 : ∃ A c, w.cell? ⟨bl, ol + i * 9, none⟩ = some (.slice A g.f0.length c) ∧ (Kd.int .i8).C w A g.f0.length g.f0
  c1 : ∃ A c, w.cell? ⟨bl, ol + i * 9 + 1, none⟩ = some (.slice A g.f1.length c) ∧ (Kd.int .i8).C w A g.f1.length g.f1
  c2 : ∃ A c, w.cell? ⟨bl, ol + i * 9 + 2, none⟩ = some (.slice A g.f2.length c) ∧ (Kd.int .i8).C w A g.f2.length g.f2
  c3 : ∃ A c, w.cell? ⟨bl, ol + i * 9 + 3, none⟩ = some (.slice A g.f3.length c) ∧ (Kd.int .i8).C w A g.f3.length g.f3
  c4 : ∃ A c, w.cell? ⟨bl, ol + i * 9 + 4, none⟩ = some (.slice A g.f4.length c) ∧ (Kd.int .i8).C w A g.f4.length g.f4
  c5 : ∃ A c, w.cell? ⟨bl, ol + i * 9 + 5, none⟩ = some (.slice A g.f5.length c) ∧ (Kd.int .i8).C w A g.f5.length g.f5
  c6 : ∃ A c, w.cell? ⟨bl, ol + i * 9 + 6, none⟩ = some (.slice A g.f6.length c) ∧ (Kd.int .i8).C w A g.f6.length g.f6
  c7 : w.cell? ⟨bl, ol + i * 9 + 7, none⟩ = some (.slice (some ⟨ub i, uo i, none⟩) k (uc i))
  c8 : w.cell? ⟨bl, ol + i * 9 + 8, none⟩ = some (.slice (some ⟨eb i, eo i, none⟩) k (ec i))
  u : ∀ j, j < k → ∃ A c, w.cell? ⟨ub i, uo i + j, none⟩ = some (.slice A (g.f7.getD j []).length c) ∧ (Kd.int .i8).C w A (g.f7.getD j []).length (g.f7.getD j [])
  e : ∀ j, j < k → ∃ A c, w.cell? ⟨eb i, eo i + j, none⟩ = some (.slice A (g.f8.getD j []).length c) ∧ (Kd.int .i8).C w A (g.f8.getD j []).length (g.f8.getD j [])
theorem visit_rows {w : World} {bm bl ol k : Nat} {ub uo uc eb eo ec : Nat → Nat} {e : List Int} {L : List S59} {nn o : List Int} (c0 c3 c4 c5 : Int) (h8 : contAt w ⟨bm, 8, none⟩ = e) (h10 : contAt w ⟨bm, 10, none⟩ = nn) (h11 : contAt w ⟨bm, 11, none⟩ = o) (hL : ∀ i (h : i < L.length), LayAt w bl ol k ub uo uc eb eo ec i L[i]) :
    (visitL bm bl ol L.length k ub uo eb eo c0 c3 c4 c5).map (fun px => contAt w px.1) = rowsM k e L nn o := by
  simp only [visitL, rowsM, List.map_append, List.map_cons, List.map_nil, h8, h10, h11, List.map_flatMap]
  rw [range_flatMap_ (g := rowsL k) (fun i hi => ?_)]
  have h := hL i hi
  obtain ⟨_, _, a0, b0⟩ := h.c0
  obtain ⟨_, _, a1, b1⟩ := h.c1
  obtain ⟨_, _, a2, b2⟩ := h.c2
  obtain ⟨_, _, a3, b3⟩ := h.c3
  obtain ⟨_, _, a4, b4⟩ := h.c4
  obtain ⟨_, _, a5, b5⟩ := h.c5
  obtain ⟨_, _, a6, b6⟩ := h.c6
  simp only [layerL, rowsL, List.map_append, List.map_cons, List.map_nil, List.map_flatMap, contAt_of a0 b0, contAt_of a1 b1, contAt_of a2 b2, contAt_of a3 b3, contAt_of a4 b4, contAt_of a5 b5, contAt_of a6 b6]
  congr 1
  apply flatMap_congr_
  intro j hj
  obtain ⟨_, _, a7, b7⟩ := h.u j (List.mem_range.1 hj)
  obtain ⟨_, _, a8, b8⟩ := h.e j (List.mem_range.1 hj)
  rw [contAt_of a7 b7, contAt_of a8 b8]
def slB : Option Value → Nat
  | some (.slice (some a) _ _) => a.block
  | _ => 0
def slO : Option Value → Nat
  | some (.slice (some a) _ _) => a.off
  | _ => 0
def slC : Option Value → Nat
  | some (.slice _ _ c) => c
  | _ => 0
theorem addr_eta {w : World} {a : Addr} {v : Value} (h : w.cell? a = some v) : a = ⟨a.block, a.off, none⟩ := by
  obtain ⟨b, o, s⟩ := a
  cases s with
  | none => rfl
  | some s =>
    unfold World.cell? at h
    split at h
    · simp at h
    · simp at h
theorem add_lit (b o n : Nat) : (⟨b, o, none⟩ : Addr).add n = ⟨b, o + n, none⟩ := by
  unfold Addr.add
  split
  · rename_i h; rw [h, Nat.add_zero]
  · rfl
theorem at_row {w : World} {A : Option Addr} {n : Nat} {xs : List (List Int)} (h : Kd.C (Kd.slice 46 (Kd.int .i8)) w A n xs) (j : Nat) (h1 : j < n) : ∃ ad A0 c0, A = some ad ∧ w.cell? (ad.add j) = some (.slice A0 (xs.getD j []).length c0) ∧ (xs.getD j []).length ≤ c0 ∧ (Kd.int .i8).C w A0 (xs.getD j []).length (xs.getD j []) := by
  obtain ⟨ad, c, e, _, hK, hc0⟩ := Kd.C_get h ([] : List Int) (j : Int) (by omega) (by omega)
  have hc : ∀ i u, c[i]? = some u → w.cell? (ad.add ((j : Int).toNat * 1 + i)) = some u := hc0
  obtain ⟨A0, c0, rfl, l0, g0⟩ := hK
  rw [Int.toNat_natCast] at l0 g0
  exact ⟨ad, A0, c0, e, by have hq := hc 0 _ rfl; rwa [Nat.mul_one, Nat.add_zero, Int.toNat_natCast] at hq, l0, g0⟩
theorem row_at {w : World} {A : Option Addr} {n c : Nat} {k : Nat} {xs : List (List Int)} (hk : 0 < k) (hn : xs.length = k) (h : (Kd.slice 46 (Kd.int .i8)).C w A xs.length xs) :
    A = some ⟨slB (some (.slice A n c)), slO (some (.slice A n c)), none⟩ ∧ ∀ j, j < k → ∃ B d, w.cell? ⟨slB (some (.slice A n c)), slO (some (.slice A n c)) + j, none⟩ = some (.slice B (xs.getD j []).length d) ∧ (Kd.int .i8).C w B (xs.getD j []).length (xs.getD j []) := by
  have key : ∀ j, j < k → ∃ ad B d, A = some ad ∧ w.cell? (ad.add j) = some (.slice B (xs.getD j []).length d) ∧ (Kd.int .i8).C w B (xs.getD j []).length (xs.getD j []) := by
    intro j hj
    obtain ⟨ad, cs, rfl, hl, hK, hc⟩ := Kd.C_get h [] (j : Int) (by omega) (by omega)
    obtain ⟨B, d, rfl, hd, hC⟩ := hK
    rw [Int.toNat_natCast] at hC hc
    have h1 := hc 0 _ rfl
    have h4 : (Kd.slice 46 (Kd.int .i8)).sz = 1 := rfl
    rw [h4, Nat.mul_one, Nat.add_zero] at h1
    exact ⟨ad, B, d, rfl, h1, hC⟩
  obtain ⟨ad, B, d, rfl, h1, _⟩ := key 0 hk
  have e0 := addr_eta (a := ad) (by rw [Addr.add, if_pos rfl] at h1; exact h1)
  obtain ⟨b, o, s⟩ := ad
  simp only [Addr.mk.injEq, true_and] at e0
  subst e0
  refine ⟨rfl, fun j hj => ?_⟩
  obtain ⟨ad, B, d, e1, h2, h3⟩ := key j hj
  obtain rfl := Option.some.inj e1
  rw [add_lit] at h2
  exact ⟨B, d, h2, h3⟩
theorem lay_at {w : World} {bl ol k : Nat} {L : List S59} (hk : 0 < k) (h : Kd.C k59 w (some ⟨bl, ol, none⟩) L.length L) (hf : ∀ g ∈ L, g.f7.length = k ∧ g.f8.length = k) (i : Nat) (hi : i < L.length) :
    LayAt w bl ol k (fun i => slB (w.cell? ⟨bl, ol + i * 9 + 7, none⟩)) (fun i => slO (w.cell? ⟨bl, ol + i * 9 + 7, none⟩)) (fun i => slC (w.cell? ⟨bl, ol + i * 9 + 7, none⟩)) (fun i => slB (w.cell? ⟨bl, ol + i * 9 + 8, none⟩)) (fun i => slO (w.cell? ⟨bl, ol + i * 9 + 8, none⟩)) (fun i => slC (w.cell? ⟨bl, ol + i * 9 + 8, none⟩)) i L[i] := by
  obtain ⟨ad, A0, c0, A1, c1, A2, c2, A3, c3, A4, c4, A5, c5, A6, c6, A7, c7, A8, c8, e_, h0, h1, h2, h3, h4, h5, h6, h7, h8, _, k0, _, k1, _, k2, _, k3, _, k4, _, k5, _, k6, _, k7, _, k8⟩ := at_T59 h (i : Int) (by omega) (by omega)
  obtain rfl := Option.some.inj e_
  rw [Int.toNat_natCast, add_lit] at h0 h1 h2 h3 h4 h5 h6 h7 h8
  rw [ck_get hi] at h0 h1 h2 h3 h4 h5 h6 h7 h8 k0 k1 k2 k3 k4 k5 k6 k7 k8
  obtain ⟨f7, f8⟩ := hf _ (List.getElem_mem hi)
  obtain ⟨a7, b7⟩ := row_at (n := L[i].f7.length) (c := c7) hk f7 k7
  obtain ⟨a8, b8⟩ := row_at (n := L[i].f8.length) (c := c8) hk f8 k8
  rw [f7] at h7
  rw [f8] at h8
  rw [f7] at a7 b7
  rw [f8] at a8 b8
  refine ⟨⟨_, _, h0, k0⟩, ⟨_, _, h1, k1⟩, ⟨_, _, h2, k2⟩, ⟨_, _, h3, k3⟩, ⟨_, _, h4, k4⟩, ⟨_, _, h5, k5⟩, ⟨_, _, h6, k6⟩, ?_, ?_, ?_, ?_⟩
  · simp only [h7]
    rw [← a7]
    rfl
  · simp only [h8]
    rw [← a8]
    rfl
  · intro j hj
    simp only [h7]
    exact b7 j hj
  · intro j hj
    simp only [h8]
    exact b8 j hj
/-- While visit goes: its own box of the configuration, all that was there but the box g, and all below w. -/
structure CkV (w wv : World) (g : Nat) (c : Array Value) (W : World) : Prop where
  hc : W.heap[wv.heap.size]? = some (.cells c 23 (0, 0))
  old : ∀ j, j < wv.heap.size → j ≠ g → W.heap[j]? = wv.heap[j]?
  bl : Below w.heap.size w W
theorem cell_heap {w W : World} {p : Addr} (h : W.heap[p.block]? = w.heap[p.block]?) : W.cell? p = w.cell? p := by
  unfold World.cell?
  rw [h]
theorem CkV.cell {w wv : World} {g : Nat} {c : Array Value} {W : World} (h : CkV w wv g c W) {p : Addr} {v : Value} (hp : wv.cell? p = some v) (hg : p.block ≠ g) : W.cell? p = some v := (cell_heap (h.old p.block (World.block_lt_of_cell? wv p hp) hg)).trans hp
theorem CkV.set {w wv : World} {g : Nat} {c : Array Value} {W : World} (h : CkV w wv g c W) (hg : g < wv.heap.size) (hw : w.heap.size ≤ g) (i : Nat) (v : Value) : CkV w wv g c (W.setCell ⟨g, i, none⟩ v) :=
  ⟨blk_far h.hc (p := ⟨g, i, none⟩) (Nat.ne_of_gt hg) v, fun j h1 h2 => (Below.heap_setCell W ⟨g, i, none⟩ v j h2).trans (h.old j h1 h2), below_set h.bl hw⟩
theorem CkV.start {w wv : World} (hb : Below w.heap.size w wv) (g : Nat) (c : Array Value) : CkV w wv g c (wv.alloc (.cells c 23)) :=
  ⟨blk_new wv _, fun j h1 _ => (below_alloc (Below.refl wv.heap.size wv) (.cells c 23)).block j h1, below_alloc hb _⟩
/-- Cells of lists of numbers. -/
def CkPt (wv : World) (g : Nat) (Ok : List Int → Prop) (p : Addr) : Prop := ∃ A l c, wv.cell? p = some (.slice A l.length c) ∧ (Kd.int .i8).C wv A l.length l ∧ Ok l ∧ p.block ≠ g
theorem LayAt.below {w w1 : World} {bl ol k : Nat} {ub uo uc eb eo ec : Nat → Nat} {i : Nat} {g : S59} (h : LayAt w bl ol k ub uo uc eb eo ec i g) (hb : Below w.heap.size w w1) : LayAt w1 bl ol k ub uo uc eb eo ec i g := by
  have mv : ∀ {p : Addr} {l : List Int}, (∃ A c, w.cell? p = some (.slice A l.length c) ∧ (Kd.int .i8).C w A l.length l) → ∃ A c, w1.cell? p = some (.slice A l.length c) ∧ (Kd.int .i8).C w1 A l.length l := by
    rintro p l ⟨A, c, a, b⟩
    exact ⟨A, c, (hb.cell (World.block_lt_of_cell? w _ a)).trans a, Kd.C_below b hb⟩
  exact ⟨mv h.c0, mv h.c1, mv h.c2, mv h.c3, mv h.c4, mv h.c5, mv h.c6, (hb.cell (World.block_lt_of_cell? w _ h.c7)).trans h.c7, (hb.cell (World.block_lt_of_cell? w _ h.c8)).trans h.c8, fun j hj => mv (h.u j hj), fun j hj => mv (h.e j hj)⟩
theorem mem_rows {k : Nat} {e : List Int} {L : List S59} {nn o : List Int} {i : Nat} (h : i < L.length) {r : List Int} (hr : r ∈ rowsL k L[i]) : r ∈ rowsM k e L nn o := by
  simp only [rowsM, List.mem_append, List.mem_flatMap]
  exact .inl (.inl (.inr ⟨_, List.getElem_mem h, hr⟩))
theorem ck_visits {w wv : World} {g bm bl ol cl n k : Nat} {c : Array Value} {ub uo uc eb eo ec : Nat → Nat} {L : List S59} {e nn o : List Int} (F : FuncId) (caps : Array Value) (J : List (Addr × Int) → World → Prop) (Ok : List Int → Prop)
    (hb : Below w.heap.size w wv) (hbm : bm ≠ g) (hgw : w.heap.size ≤ g) (hOk : ∀ r ∈ rowsM k e L nn o, Ok r)
    (h8 : ∃ A c, wv.cell? ⟨bm, 8, none⟩ = some (.slice A e.length c) ∧ (Kd.int .i8).C wv A e.length e) (h9 : wv.cell? ⟨bm, 9, none⟩ = some (.slice (some ⟨bl, ol, none⟩) n cl)) (h10 : ∃ A c, wv.cell? ⟨bm, 10, none⟩ = some (.slice A nn.length c) ∧ (Kd.int .i8).C wv A nn.length nn) (h11 : ∃ A c, wv.cell? ⟨bm, 11, none⟩ = some (.slice A o.length c) ∧ (Kd.int .i8).C wv A o.length o)
    (hn : L.length = n) (hL : ∀ i (h : i < L.length), LayAt w bl ol k ub uo uc eb eo ec i L[i])
    (hJ : ∀ T W, J T W → J T W.drew) (hJN : ∀ T W m, J T W → J T (W.drewN m))
    (step : ∀ T p x W A l q, wv.cell? p = some (.slice A l.length q) → (Kd.int .i8).C wv A l.length l → Ok l → p.block ≠ g → T.length < 128 → CkV w wv g c W → J T W → Calls Try.prog F (#[.pointer (some p), .int .i64 x] ++ caps) W fun e w' => (∃ u, e = .returned u) ∧ CkV w wv g c w' ∧ J (T ++ [(p, x)]) w') :
    Visits (CkPt wv g Ok) F caps bm wv.heap.size bl ol cl n k c ub uo uc eb eo ec (fun T W => CkV w wv g c W ∧ J T W) where
  drewN := fun T W m h => ⟨⟨h.1.hc, h.1.old, pw_below_drewN h.1.bl m⟩, hJN T W m h.2⟩
  drew := fun T W h => ⟨⟨h.1.hc, h.1.old, below_drew1 h.1.bl⟩, hJ T W h.2⟩
  keep := fun T W h => by
    have lo : ∀ {p : Addr} {v : Value}, w.cell? p = some v → W.cell? p = some v := fun {p v} a => h.1.cell ((hb.cell (World.block_lt_of_cell? w p a)).trans a) (Nat.ne_of_lt (Nat.lt_of_lt_of_le (World.block_lt_of_cell? w p a) hgw))
    exact ⟨h.1.hc, h.1.cell h9 hbm, fun i hi => lo (hL i (by omega)).c7, fun i hi => lo (hL i (by omega)).c8⟩
  p8 := by obtain ⟨A, c, a, b⟩ := h8; exact ⟨A, e, c, a, b, hOk _ (by simp [rowsM]), hbm⟩
  p10 := by obtain ⟨A, c, a, b⟩ := h10; exact ⟨A, nn, c, a, b, hOk _ (by simp [rowsM]), hbm⟩
  p11 := by obtain ⟨A, c, a, b⟩ := h11; exact ⟨A, o, c, a, b, hOk _ (by simp [rowsM]), hbm⟩
  pl := fun i hi q hq => by
    have hi2 : i < L.length := by omega
    have h := hL i hi2
    have up : ∀ {p : Addr} {A : Option Addr} {l : List Int} {c : Nat}, w.cell? p = some (.slice A l.length c) → (Kd.int .i8).C w A l.length l → l ∈ rowsM k e L nn o → CkPt wv g Ok p := fun {p A l c} a b m => ⟨A, l, c, (hb.cell (World.block_lt_of_cell? w p a)).trans a, Kd.C_below b hb, hOk _ m, Nat.ne_of_lt (Nat.lt_of_lt_of_le (World.block_lt_of_cell? w p a) hgw)⟩
    obtain rfl | rfl | rfl | rfl | rfl | rfl | rfl : q = 0 ∨ q = 1 ∨ q = 2 ∨ q = 3 ∨ q = 4 ∨ q = 5 ∨ q = 6 := by omega
    · obtain ⟨A, c, a, b⟩ := h.c0; exact up a b (mem_rows hi2 (by simp [rowsL]))
    · obtain ⟨A, c, a, b⟩ := h.c1; exact up a b (mem_rows hi2 (by simp [rowsL]))
    · obtain ⟨A, c, a, b⟩ := h.c2; exact up a b (mem_rows hi2 (by simp [rowsL]))
    · obtain ⟨A, c, a, b⟩ := h.c3; exact up a b (mem_rows hi2 (by simp [rowsL]))
    · obtain ⟨A, c, a, b⟩ := h.c4; exact up a b (mem_rows hi2 (by simp [rowsL]))
    · obtain ⟨A, c, a, b⟩ := h.c5; exact up a b (mem_rows hi2 (by simp [rowsL]))
    · obtain ⟨A, c, a, b⟩ := h.c6; exact up a b (mem_rows hi2 (by simp [rowsL]))
  pu := fun i hi j hj => by
    have hi2 : i < L.length := by omega
    obtain ⟨A, c, a, b⟩ := (hL i hi2).u j hj
    exact ⟨A, _, c, (hb.cell (World.block_lt_of_cell? w _ a)).trans a, Kd.C_below b hb, hOk _ (mem_rows hi2 (by simp only [rowsL, List.mem_append, List.mem_flatMap, List.mem_range]; exact .inr ⟨j, hj, by simp⟩)), Nat.ne_of_lt (Nat.lt_of_lt_of_le (World.block_lt_of_cell? w _ a) hgw)⟩
  pe := fun i hi j hj => by
    have hi2 : i < L.length := by omega
    obtain ⟨A, c, a, b⟩ := (hL i hi2).e j hj
    exact ⟨A, _, c, (hb.cell (World.block_lt_of_cell? w _ a)).trans a, Kd.C_below b hb, hOk _ (mem_rows hi2 (by simp only [rowsL, List.mem_append, List.mem_flatMap, List.mem_range]; exact .inr ⟨j, hj, by simp⟩)), Nat.ne_of_lt (Nat.lt_of_lt_of_le (World.block_lt_of_cell? w _ a) hgw)⟩
  step := fun T p x y W hp hxy hT h => by
    subst hxy
    obtain ⟨A, l, q, a, b, hok, hne⟩ := hp
    exact (step T p x W A l q a b hok hne hT h.1 h.2).mono fun e w' hh => hh
def rngM (c0 c2 c3 c4 c5 : Int) : Bool := decide (2 ≤ c0 ∧ c0 ≤ 8 ∧ 1 ≤ c2 ∧ c2 ≤ 2 ∧ 2 ≤ c3 ∧ c3 ≤ 16 ∧ 1 ≤ c4 ∧ c4 ≤ 8 ∧ 0 ≤ c5 ∧ c5 ≤ 4)
theorem rng_mul {a b : Int} (h0 : 0 ≤ a) (h1 : a ≤ 16) (h2 : 0 ≤ b) (h3 : b ≤ 8) : wrap64 (a * b) = a * b := by
  have h4 : a * b ≤ 16 * 8 := Int.mul_le_mul h1 h3 h2 (by decide)
  have h5 : 0 ≤ a * b := Int.mul_nonneg h0 h2
  unfold wrap64
  omega
theorem rng_k {c0 c2 c3 c4 c5 : Int} (h : rngM c0 c2 c3 c4 c5 = true) : 0 < (mx c5 1).toNat ∧ (mx c5 1).toNat ≤ 4 ∧ ((mx c5 1).toNat : Int) = mx c5 1 := by
  simp only [rngM, decide_eq_true_eq] at h
  unfold mx
  split <;> omega
def fitU (g : S59) (k : Int) : Bool := decide ((g.f7.length : Int) = k) && decide ((g.f8.length : Int) = k)
theorem fitU_all {L : List S59} {x : Int} {k : Nat} (hk : (k : Int) = x) (h : (L.all fun g => fitU g x) = true) : ∀ g ∈ L, g.f7.length = k ∧ g.f8.length = k := by
  intro g hg
  have h1 := List.all_eq_true.1 h g hg
  simp only [fitU, Bool.and_eq_true, decide_eq_true_eq] at h1
  omega
theorem all_decide {α : Type} (f g : α → Int) : ∀ T : List α, T.all (fun x => decide (f x = g x)) = decide (T.map f = T.map g)
  | [] => by simp
  | x :: T => by
    rw [List.all_cons, all_decide f g T, List.map_cons, List.map_cons]
    by_cases h : f x = g x
    · simp [h]
    · simp [h]

attribute [local go_sem] max2_int max_two
/-- Two boxes of the call's own, and all else below as it was. -/
structure CkTwo (w : World) (g1 g2 t1 t2 : Nat) (c1 c2 : Array Value) (W : World) : Prop where
  b1 : W.heap[g1]? = some (.cells c1 t1 (0, 0))
  b2 : W.heap[g2]? = some (.cells c2 t2 (0, 0))
  bl : Below w.heap.size w W
  ord : w.heap.size ≤ g1
  ord2 : g1 < g2
theorem CkTwo.below {w W W1 : World} {g1 g2 t1 t2 : Nat} {c1 c2 : Array Value} (h : CkTwo w g1 g2 t1 t2 c1 c2 W) (hb : Below W.heap.size W W1) : CkTwo w g1 g2 t1 t2 c1 c2 W1 := ⟨blk_below h.b1 hb, blk_below h.b2 hb, below_step h.bl hb, h.ord, h.ord2⟩
theorem CkTwo.drewN {w W : World} {g1 g2 t1 t2 : Nat} {c1 c2 : Array Value} (h : CkTwo w g1 g2 t1 t2 c1 c2 W) (n : Nat) : CkTwo w g1 g2 t1 t2 c1 c2 (W.drewN n) := ⟨blk_drewN h.b1 n, blk_drewN h.b2 n, pw_below_drewN h.bl n, h.ord, h.ord2⟩
/-- One box. -/
structure CkOne (w : World) (g1 t1 : Nat) (c1 : Array Value) (W : World) : Prop where
  b1 : W.heap[g1]? = some (.cells c1 t1 (0, 0))
  bl : Below w.heap.size w W
  ord : w.heap.size ≤ g1
theorem CkOne.below {w W W1 : World} {g1 t1 : Nat} {c1 : Array Value} (h : CkOne w g1 t1 c1 W) (hb : Below W.heap.size W W1) : CkOne w g1 t1 c1 W1 := ⟨blk_below h.b1 hb, below_step h.bl hb, h.ord⟩
theorem CkTwo.set {w W : World} {g1 g2 t1 t2 : Nat} {c1 : Array Value} {v : Value} (h : CkTwo w g1 g2 t1 t2 c1 #[v] W) (u : Value) : CkTwo w g1 g2 t1 t2 c1 #[u] (W.setCell ⟨g2, 0, none⟩ u) := ⟨blk_far h.b1 (p := ⟨g2, 0, none⟩) (Nat.ne_of_lt h.ord2) u, blk_set h.b2 0 u, below_set h.bl (Nat.le_of_lt (Nat.lt_of_le_of_lt h.ord h.ord2)), h.ord, h.ord2⟩
def fitM (c0 c2 c3 c4 c5 : Int) (e : List Int) (L : List S59) (nn o : List Int) : Bool := decide ((L.length : Int) = c2) && (L.all (fun g => fitU g (mx c5 1)) && decide ((rowsM (mx c5 1).toNat e L nn o).map (fun l => (l.length : Int)) = sizesM L.length (mx c5 1).toNat c0 c3 c4 c5))
def ckpt_Check.f (k : Nat) (a0_0 : Int) (a0_1 : Int) (a0_2 : Int) (a0_3 : Int) (a0_4 : Int) (a0_5 : Int) (a0_6 : Int) (a0_7 : Int) (l0_8 : List Int) (l0_9 : List S59) (l0_10 : List Int) (l0_11 : List Int) : Option (Int) := (ckpt_Config.f k a0_0 a0_1 a0_2 a0_3 a0_4 a0_5 a0_6 a0_7).bind fun t => (if t = true then (if rngM a0_0 a0_2 a0_3 a0_4 a0_5 = true then (some (if fitM a0_0 a0_2 a0_3 a0_4 a0_5 l0_8 l0_9 l0_10 l0_11 = true then 0 else 21)) else none) else (some 20))
theorem ckpt_Check.mono : ∀ a0 a1 a2 a3 a4 a5 a6 a7 a8 a9 a10 a11 k, LeO (ckpt_Check.f k a0 a1 a2 a3 a4 a5 a6 a7 a8 a9 a10 a11) (ckpt_Check.f (k + 1) a0 a1 a2 a3 a4 a5 a6 a7 a8 a9 a10 a11) := by
  intro a0 a1 a2 a3 a4 a5 a6 a7 a8 a9 a10 a11 k
  unfold ckpt_Check.f
  repeat' first
      | (with_reducible exact LeO.refl _)
      | (with_reducible exact LeO.none _)
      | (with_reducible refine LeO.ite ?_ ?_)
      | (with_reducible exact ckpt_Config.mono _ _ _ _ _ _ _ _ _)
      | (with_reducible refine LeO.bind ?_ (fun _ => ?_))
set_option maxHeartbeats 8000000 in
set_option maxRecDepth 100000 in
theorem ckpt_Check_1.calls (g b o : Nat) (ok : Bool) (n : Int) (A : Option Addr) (len c : Nat) (w : World) (hg : w.heap[g]? = some (.cells #[.bool ok] 4 (0, 0))) (hp : w.cell? ⟨b, o, none⟩ = some (.slice A len c)) :
    Calls Try.prog 42 #[.pointer (some ⟨b, o, none⟩), .int .i64 n, .pointer (some ⟨g, 0, none⟩)] w fun e w' => (∃ u, e = .returned u) ∧ w' = w.setCell ⟨g, 0, none⟩ (.bool (ok && ((len : Int) == n))) := by
  have hx : w.cell? ⟨g, 0, none⟩ = some (.bool ok) := (blk_cell hg 0).trans rfl
  have hf := blk_frozen hg 0
  clear hg
  cases ok with
  | true =>
    go_enter Try.func42, Try.ntmps42
    go_wp2
    go_end0
    exact ⟨⟨_, rfl⟩, by simp⟩
  | false =>
    go_enter Try.func42, Try.ntmps42
    go_wp2
    go_end0
    exact ⟨⟨_, rfl⟩, by simp⟩
set_option maxHeartbeats 8000000 in
theorem ckpt_Check_visit (a0_0 : Int) (a0_1 : Int) (a0_2 : Int) (a0_3 : Int) (a0_4 : Int) (a0_5 : Int) (a0_6 : Int) (a0_7 : Int) (A0_8 : Option Addr) (c0_8 : Nat) (l0_8 : List Int) (A0_9 : Option Addr) (c0_9 : Nat) (l0_9 : List S59) (A0_10 : Option Addr) (c0_10 : Nat) (l0_10 : List Int) (A0_11 : Option Addr) (c0_11 : Nat) (l0_11 : List Int) (w wv : World) (g : Nat) (hr0_8 : Kd.C (Kd.int .i8) w A0_8 l0_8.length l0_8) (hr0_9 : Kd.C k59 w A0_9 l0_9.length l0_9) (hr0_10 : Kd.C (Kd.int .i8) w A0_10 l0_10.length l0_10) (hr0_11 : Kd.C (Kd.int .i8) w A0_11 l0_11.length l0_11)
    (hI : CkTwo w w.heap.size g 29 4 #[.int .i64 a0_0, .int .i64 a0_1, .int .i64 a0_2, .int .i64 a0_3, .int .i64 a0_4, .int .i64 a0_5, .int .i64 a0_6, .int .i64 a0_7, .slice A0_8 l0_8.length c0_8, .slice A0_9 l0_9.length c0_9, .slice A0_10 l0_10.length c0_10, .slice A0_11 l0_11.length c0_11] #[.bool true] wv) (hrn : rngM a0_0 a0_2 a0_3 a0_4 a0_5 = true) (hlen : (l0_9.length : Int) = a0_2) (hU : (l0_9.all fun g => fitU g (mx a0_5 1)) = true) :
    Calls Try.prog 30 #[.pointer (some ⟨w.heap.size, 0, none⟩), .func (.func 42) #[] #[.pointer (some ⟨g, 0, none⟩)]] wv fun e w' => (∃ u, e = .returned u) ∧ CkTwo w w.heap.size g 29 4 #[.int .i64 a0_0, .int .i64 a0_1, .int .i64 a0_2, .int .i64 a0_3, .int .i64 a0_4, .int .i64 a0_5, .int .i64 a0_6, .int .i64 a0_7, .slice A0_8 l0_8.length c0_8, .slice A0_9 l0_9.length c0_9, .slice A0_10 l0_10.length c0_10, .slice A0_11 l0_11.length c0_11] #[.bool (decide ((rowsM (mx a0_5 1).toNat l0_8 l0_9 l0_10 l0_11).map (fun l => (l.length : Int)) = sizesM l0_9.length (mx a0_5 1).toNat a0_0 a0_3 a0_4 a0_5))] w' := by
  obtain ⟨hk0, hk4, hkx⟩ := rng_k hrn
  have hrn2 := hrn
  simp only [rngM, decide_eq_true_eq] at hrn2
  have hgs : g < wv.heap.size := blk_lt hI.b2
  have R9 := hr0_9
  obtain ⟨ad, hA, _⟩ := R9.2.2 (by omega)
  have x9 : wv.cell? ⟨w.heap.size, 9, none⟩ = some (.slice A0_9 l0_9.length c0_9) := (blk_cell hI.b1 9).trans rfl
  have x8 : wv.cell? ⟨w.heap.size, 8, none⟩ = some (.slice A0_8 l0_8.length c0_8) := (blk_cell hI.b1 8).trans rfl
  have x10 : wv.cell? ⟨w.heap.size, 10, none⟩ = some (.slice A0_10 l0_10.length c0_10) := (blk_cell hI.b1 10).trans rfl
  have x11 : wv.cell? ⟨w.heap.size, 11, none⟩ = some (.slice A0_11 l0_11.length c0_11) := (blk_cell hI.b1 11).trans rfl
  subst hA
  have had : ad = ⟨ad.block, ad.off, none⟩ := by
    obtain ⟨a_, _, _, _, _, _, _, _, _, _, _, _, _, _, _, _, _, _, _, e_, h0, _⟩ := at_T59 R9 ((0 : Nat) : Int) (by omega) (by omega)
    obtain rfl := Option.some.inj e_
    rw [Int.toNat_natCast, Nat.zero_mul, Addr.add, if_pos rfl] at h0
    exact addr_eta h0
  obtain ⟨bl, ol, sp⟩ := ad
  simp only [Addr.mk.injEq, true_and] at had
  subst had
  have hLay := lay_at hk0 R9 (fitU_all hkx hU)
  have hb := Kd.C_below hr0_8 hI.bl
  have HS := ck_visits (w := w) (wv := wv) (g := g) (bm := w.heap.size) (bl := bl) (ol := ol) (cl := c0_9) (n := l0_9.length) (c := #[.int .i64 a0_0, .int .i64 a0_1, .int .i64 a0_2, .int .i64 a0_3, .int .i64 a0_4, .int .i64 a0_5, .int .i64 a0_6, .int .i64 a0_7]) (L := l0_9) (e := l0_8) (nn := l0_10) (o := l0_11) 42 #[.pointer (some ⟨g, 0, none⟩)]
    (fun T W => W.heap[g]? = some (.cells #[.bool (T.all fun px => decide (((contAt wv px.1).length : Int) = px.2))] 4 (0, 0))) (fun _ => True) hI.bl (Nat.ne_of_lt hI.ord2) (Nat.le_of_lt hI.ord2) (fun _ _ => trivial) ⟨_, _, x8, Kd.C_below hr0_8 hI.bl⟩ x9 ⟨_, _, x10, Kd.C_below hr0_10 hI.bl⟩ ⟨_, _, x11, Kd.C_below hr0_11 hI.bl⟩ rfl hLay (fun T W h => h) (fun T W m h => h)
    (fun T p x W A l q hp _ _ hpb _ hv hj => by
      have hc := hv.cell hp hpb
      have he := addr_eta hp
      rw [he] at hc ⊢
      refine (ckpt_Check_1.calls g p.block p.off _ x A l.length q W hj hc).mono fun e w' hh => ?_
      obtain ⟨hu, rfl⟩ := hh
      refine ⟨hu, hv.set hgs (by have := hI.ord; have := hI.ord2; omega) 0 _, ?_⟩
      have hs := blk_set hj 0 (.bool ((T.all fun px => decide (((contAt wv px.1).length : Int) = px.2)) && ((l.length : Int) == x)))
      rw [show #[Value.bool (T.all fun px => decide (((contAt wv px.1).length : Int) = px.2))].setIfInBounds 0 (.bool ((T.all fun px => decide (((contAt wv px.1).length : Int) = px.2)) && ((l.length : Int) == x))) = #[Value.bool ((T.all fun px => decide (((contAt wv px.1).length : Int) = px.2)) && ((l.length : Int) == x))] from rfl] at hs
      rw [List.all_append, List.all_cons, List.all_nil, Bool.and_true, ← he, contAt_len hp]
      exact hs)
  have hall := ckpt_visit.all 42 Try.f42 #[.pointer (some ⟨g, 0, none⟩)] Try.func42 (by kernel_rfl) rfl w.heap.size bl ol c0_9 l0_9.length (mx a0_5 1).toNat _ _ _ _ _ _ a0_0 a0_1 a0_2 a0_3 a0_4 a0_5 a0_6 a0_7 (.slice A0_8 l0_8.length c0_8) (.slice A0_10 l0_10.length c0_10) (.slice A0_11 l0_11.length c0_11) wv (by omega) hk4 ⟨rng_mul (by omega) (by omega) (by omega) (by omega)⟩ ⟨rng_mul (by omega) (by omega) (by omega) (by omega)⟩ ⟨rng_mul (by omega) (by omega) (by omega) (by omega)⟩ ⟨rng_mul (by omega) (by omega) (by omega) (by omega)⟩ _ hI.b1 (CkPt wv g (fun _ => True)) HS ⟨CkV.start hI.bl g _, blk_alloc hI.b2 _⟩
  refine hall.mono fun e w' hh => ?_
  obtain ⟨hu, hv, hj⟩ := hh
  refine ⟨hu, ⟨?_, ?_, hv.bl, hI.ord, hI.ord2⟩⟩
  · exact (hv.old _ (blk_lt hI.b1) (Nat.ne_of_lt hI.ord2)).trans hI.b1
  · rw [all_decide, visit_sizes] at hj
    have hrow := visit_rows (w := wv) (bm := w.heap.size) a0_0 a0_3 a0_4 a0_5 (contAt_of x8 (Kd.C_below hr0_8 hI.bl)) (contAt_of x10 (Kd.C_below hr0_10 hI.bl)) (contAt_of x11 (Kd.C_below hr0_11 hI.bl)) (fun i hi => (hLay i hi).below hI.bl)
    rw [← hrow, List.map_map]
    exact hj
set_option maxHeartbeats 8000000 in
set_option maxRecDepth 100000 in
theorem ckpt_Check.calls (k : Nat) (a0_0 : Int) (a0_1 : Int) (a0_2 : Int) (a0_3 : Int) (a0_4 : Int) (a0_5 : Int) (a0_6 : Int) (a0_7 : Int) (A0_8 : Option Addr) (c0_8 : Nat) (l0_8 : List Int) (A0_9 : Option Addr) (c0_9 : Nat) (l0_9 : List S59) (A0_10 : Option Addr) (c0_10 : Nat) (l0_10 : List Int) (A0_11 : Option Addr) (c0_11 : Nat) (l0_11 : List Int) (r : Int) (w : World) (hr0_8 : Kd.C (Kd.int .i8) w A0_8 l0_8.length l0_8) (hc0_8 : l0_8.length ≤ c0_8) (hr0_9 : Kd.C k59 w A0_9 l0_9.length l0_9) (hc0_9 : l0_9.length ≤ c0_9) (hr0_10 : Kd.C (Kd.int .i8) w A0_10 l0_10.length l0_10) (hc0_10 : l0_10.length ≤ c0_10) (hr0_11 : Kd.C (Kd.int .i8) w A0_11 l0_11.length l0_11) (hc0_11 : l0_11.length ≤ c0_11) (h : ckpt_Check.f k a0_0 a0_1 a0_2 a0_3 a0_4 a0_5 a0_6 a0_7 l0_8 l0_9 l0_10 l0_11 = some r) :
    Calls Try.prog 16 #[.agg #[.int .i64 a0_0, .int .i64 a0_1, .int .i64 a0_2, .int .i64 a0_3, .int .i64 a0_4, .int .i64 a0_5, .int .i64 a0_6, .int .i64 a0_7, .slice A0_8 l0_8.length c0_8, .slice A0_9 l0_9.length c0_9, .slice A0_10 l0_10.length c0_10, .slice A0_11 l0_11.length c0_11]] w fun e w' => e = .returned (.int .i64 r) ∧ Below w.heap.size w w' := by
  have hu29 := Try.underlying29
  have hu23 := Try.underlying23
  have hu27 := Try.underlying27
  have hu59 := Try.underlying59
  have hu57 := Try.underlying57
  have HR := Aside0.mk hr0_9
  have HR8 := Aside0.mk hr0_8
  have HR10 := Aside0.mk hr0_10
  have HR11 := Aside0.mk hr0_11
  clear hr0_8 hc0_8 hr0_9 hc0_9 hr0_10 hc0_10 hr0_11 hc0_11
  have HI0 : Aside0 (CkOne w w.heap.size 29 #[.int .i64 a0_0, .int .i64 a0_1, .int .i64 a0_2, .int .i64 a0_3, .int .i64 a0_4, .int .i64 a0_5, .int .i64 a0_6, .int .i64 a0_7, .slice A0_8 l0_8.length c0_8, .slice A0_9 l0_9.length c0_9, .slice A0_10 l0_10.length c0_10, .slice A0_11 l0_11.length c0_11] (w.alloc (.cells #[.int .i64 a0_0, .int .i64 a0_1, .int .i64 a0_2, .int .i64 a0_3, .int .i64 a0_4, .int .i64 a0_5, .int .i64 a0_6, .int .i64 a0_7, .slice A0_8 l0_8.length c0_8, .slice A0_9 l0_9.length c0_9, .slice A0_10 l0_10.length c0_10, .slice A0_11 l0_11.length c0_11] 29))) := ⟨blk_new w _, below_alloc (Below.refl _ _) _, Nat.le_refl _⟩
  obtain ⟨t, ht, H⟩ := Option.bind_eq_some_iff.mp h
  clear h
  have HT := Aside0.mk ht
  clear ht
  have HW := Aside0.mk H
  clear H
  cases t with
  | false =>
    replace HW : Aside0 (some (20 : Int) = some r) := ⟨by have h := HW.out; simpa using h⟩
    go_enter Try.func16, Try.ntmps16
    have hm0 : (w.alloc (.cells #[.int .i64 a0_0, .int .i64 a0_1, .int .i64 a0_2, .int .i64 a0_3, .int .i64 a0_4, .int .i64 a0_5, .int .i64 a0_6, .int .i64 a0_7, .slice A0_8 l0_8.length c0_8, .slice A0_9 l0_9.length c0_9, .slice A0_10 l0_10.length c0_10, .slice A0_11 l0_11.length c0_11] 29)).cell? ⟨w.heap.size, 0, none⟩ = some (.int .i64 a0_0) := (blk_cell HI0.out.b1 0).trans rfl
    have hm1 : (w.alloc (.cells #[.int .i64 a0_0, .int .i64 a0_1, .int .i64 a0_2, .int .i64 a0_3, .int .i64 a0_4, .int .i64 a0_5, .int .i64 a0_6, .int .i64 a0_7, .slice A0_8 l0_8.length c0_8, .slice A0_9 l0_9.length c0_9, .slice A0_10 l0_10.length c0_10, .slice A0_11 l0_11.length c0_11] 29)).cell? ⟨w.heap.size, 1, none⟩ = some (.int .i64 a0_1) := (blk_cell HI0.out.b1 1).trans rfl
    have hm2 : (w.alloc (.cells #[.int .i64 a0_0, .int .i64 a0_1, .int .i64 a0_2, .int .i64 a0_3, .int .i64 a0_4, .int .i64 a0_5, .int .i64 a0_6, .int .i64 a0_7, .slice A0_8 l0_8.length c0_8, .slice A0_9 l0_9.length c0_9, .slice A0_10 l0_10.length c0_10, .slice A0_11 l0_11.length c0_11] 29)).cell? ⟨w.heap.size, 2, none⟩ = some (.int .i64 a0_2) := (blk_cell HI0.out.b1 2).trans rfl
    have hm3 : (w.alloc (.cells #[.int .i64 a0_0, .int .i64 a0_1, .int .i64 a0_2, .int .i64 a0_3, .int .i64 a0_4, .int .i64 a0_5, .int .i64 a0_6, .int .i64 a0_7, .slice A0_8 l0_8.length c0_8, .slice A0_9 l0_9.length c0_9, .slice A0_10 l0_10.length c0_10, .slice A0_11 l0_11.length c0_11] 29)).cell? ⟨w.heap.size, 3, none⟩ = some (.int .i64 a0_3) := (blk_cell HI0.out.b1 3).trans rfl
    have hm4 : (w.alloc (.cells #[.int .i64 a0_0, .int .i64 a0_1, .int .i64 a0_2, .int .i64 a0_3, .int .i64 a0_4, .int .i64 a0_5, .int .i64 a0_6, .int .i64 a0_7, .slice A0_8 l0_8.length c0_8, .slice A0_9 l0_9.length c0_9, .slice A0_10 l0_10.length c0_10, .slice A0_11 l0_11.length c0_11] 29)).cell? ⟨w.heap.size, 4, none⟩ = some (.int .i64 a0_4) := (blk_cell HI0.out.b1 4).trans rfl
    have hm5 : (w.alloc (.cells #[.int .i64 a0_0, .int .i64 a0_1, .int .i64 a0_2, .int .i64 a0_3, .int .i64 a0_4, .int .i64 a0_5, .int .i64 a0_6, .int .i64 a0_7, .slice A0_8 l0_8.length c0_8, .slice A0_9 l0_9.length c0_9, .slice A0_10 l0_10.length c0_10, .slice A0_11 l0_11.length c0_11] 29)).cell? ⟨w.heap.size, 5, none⟩ = some (.int .i64 a0_5) := (blk_cell HI0.out.b1 5).trans rfl
    have hm6 : (w.alloc (.cells #[.int .i64 a0_0, .int .i64 a0_1, .int .i64 a0_2, .int .i64 a0_3, .int .i64 a0_4, .int .i64 a0_5, .int .i64 a0_6, .int .i64 a0_7, .slice A0_8 l0_8.length c0_8, .slice A0_9 l0_9.length c0_9, .slice A0_10 l0_10.length c0_10, .slice A0_11 l0_11.length c0_11] 29)).cell? ⟨w.heap.size, 6, none⟩ = some (.int .i64 a0_6) := (blk_cell HI0.out.b1 6).trans rfl
    have hm7 : (w.alloc (.cells #[.int .i64 a0_0, .int .i64 a0_1, .int .i64 a0_2, .int .i64 a0_3, .int .i64 a0_4, .int .i64 a0_5, .int .i64 a0_6, .int .i64 a0_7, .slice A0_8 l0_8.length c0_8, .slice A0_9 l0_9.length c0_9, .slice A0_10 l0_10.length c0_10, .slice A0_11 l0_11.length c0_11] 29)).cell? ⟨w.heap.size, 7, none⟩ = some (.int .i64 a0_7) := (blk_cell HI0.out.b1 7).trans rfl
    have hm8 : (w.alloc (.cells #[.int .i64 a0_0, .int .i64 a0_1, .int .i64 a0_2, .int .i64 a0_3, .int .i64 a0_4, .int .i64 a0_5, .int .i64 a0_6, .int .i64 a0_7, .slice A0_8 l0_8.length c0_8, .slice A0_9 l0_9.length c0_9, .slice A0_10 l0_10.length c0_10, .slice A0_11 l0_11.length c0_11] 29)).cell? ⟨w.heap.size, 8, none⟩ = some (.slice A0_8 l0_8.length c0_8) := (blk_cell HI0.out.b1 8).trans rfl
    have hm9 : (w.alloc (.cells #[.int .i64 a0_0, .int .i64 a0_1, .int .i64 a0_2, .int .i64 a0_3, .int .i64 a0_4, .int .i64 a0_5, .int .i64 a0_6, .int .i64 a0_7, .slice A0_8 l0_8.length c0_8, .slice A0_9 l0_9.length c0_9, .slice A0_10 l0_10.length c0_10, .slice A0_11 l0_11.length c0_11] 29)).cell? ⟨w.heap.size, 9, none⟩ = some (.slice A0_9 l0_9.length c0_9) := (blk_cell HI0.out.b1 9).trans rfl
    have hm10 : (w.alloc (.cells #[.int .i64 a0_0, .int .i64 a0_1, .int .i64 a0_2, .int .i64 a0_3, .int .i64 a0_4, .int .i64 a0_5, .int .i64 a0_6, .int .i64 a0_7, .slice A0_8 l0_8.length c0_8, .slice A0_9 l0_9.length c0_9, .slice A0_10 l0_10.length c0_10, .slice A0_11 l0_11.length c0_11] 29)).cell? ⟨w.heap.size, 10, none⟩ = some (.slice A0_10 l0_10.length c0_10) := (blk_cell HI0.out.b1 10).trans rfl
    have hm11 : (w.alloc (.cells #[.int .i64 a0_0, .int .i64 a0_1, .int .i64 a0_2, .int .i64 a0_3, .int .i64 a0_4, .int .i64 a0_5, .int .i64 a0_6, .int .i64 a0_7, .slice A0_8 l0_8.length c0_8, .slice A0_9 l0_9.length c0_9, .slice A0_10 l0_10.length c0_10, .slice A0_11 l0_11.length c0_11] 29)).cell? ⟨w.heap.size, 11, none⟩ = some (.slice A0_11 l0_11.length c0_11) := (blk_cell HI0.out.b1 11).trans rfl
    go_wp2_with (first | ((with_reducible refine gate_callee (f := 9) rfl ?_); refine goesL_ (some 9) rfl rfl Try.func9 (by kernel_rfl) rfl #[.agg #[.int .i64 a0_0, .int .i64 a0_1, .int .i64 a0_2, .int .i64 a0_3, .int .i64 a0_4, .int .i64 a0_5, .int .i64 a0_6, .int .i64 a0_7]] rfl (by (try simp only [List.map_toArray, List.map_cons, List.map_nil]); first | done | rfl) ?_; (with_reducible refine (ckpt_Config.calls k a0_0 a0_1 a0_2 a0_3 a0_4 a0_5 a0_6 a0_7 false _ HT.out).mono ?_); rintro e w1 ⟨rfl, hb⟩; refine ⟨_, rfl, ?_⟩; have HI := Aside0.mk (HI0.out.below hb); clear hb HI0; clear hm0 hm1 hm2 hm3 hm4 hm5 hm6 hm7 hm8 hm9 hm10 hm11; have hm0 : w1.cell? ⟨w.heap.size, 0, none⟩ = some (.int .i64 a0_0) := (blk_cell HI.out.b1 0).trans rfl; have hm1 : w1.cell? ⟨w.heap.size, 1, none⟩ = some (.int .i64 a0_1) := (blk_cell HI.out.b1 1).trans rfl; have hm2 : w1.cell? ⟨w.heap.size, 2, none⟩ = some (.int .i64 a0_2) := (blk_cell HI.out.b1 2).trans rfl; have hm3 : w1.cell? ⟨w.heap.size, 3, none⟩ = some (.int .i64 a0_3) := (blk_cell HI.out.b1 3).trans rfl; have hm4 : w1.cell? ⟨w.heap.size, 4, none⟩ = some (.int .i64 a0_4) := (blk_cell HI.out.b1 4).trans rfl; have hm5 : w1.cell? ⟨w.heap.size, 5, none⟩ = some (.int .i64 a0_5) := (blk_cell HI.out.b1 5).trans rfl; have hm6 : w1.cell? ⟨w.heap.size, 6, none⟩ = some (.int .i64 a0_6) := (blk_cell HI.out.b1 6).trans rfl; have hm7 : w1.cell? ⟨w.heap.size, 7, none⟩ = some (.int .i64 a0_7) := (blk_cell HI.out.b1 7).trans rfl; have hm8 : w1.cell? ⟨w.heap.size, 8, none⟩ = some (.slice A0_8 l0_8.length c0_8) := (blk_cell HI.out.b1 8).trans rfl; have hm9 : w1.cell? ⟨w.heap.size, 9, none⟩ = some (.slice A0_9 l0_9.length c0_9) := (blk_cell HI.out.b1 9).trans rfl; have hm10 : w1.cell? ⟨w.heap.size, 10, none⟩ = some (.slice A0_10 l0_10.length c0_10) := (blk_cell HI.out.b1 10).trans rfl; have hm11 : w1.cell? ⟨w.heap.size, 11, none⟩ = some (.slice A0_11 l0_11.length c0_11) := (blk_cell HI.out.b1 11).trans rfl))
    go_ret
    obtain rfl := Option.some.inj HW.out
    exact ⟨rfl, HI.out.bl⟩
  | true =>
    obtain ⟨hrn, HW2⟩ : rngM a0_0 a0_2 a0_3 a0_4 a0_5 = true ∧ r = (if fitM a0_0 a0_2 a0_3 a0_4 a0_5 l0_8 l0_9 l0_10 l0_11 = true then 0 else 21) := by
      have h := HW.out
      rw [if_pos rfl] at h
      by_cases hr : rngM a0_0 a0_2 a0_3 a0_4 a0_5 = true
      · rw [if_pos hr] at h; exact ⟨hr, (Option.some.inj h).symm⟩
      · rw [if_neg hr] at h; exact absurd h (by simp)
    clear HW
    have HW := Aside0.mk HW2
    have HRN := Aside0.mk hrn
    clear HW2 hrn
    go_enter Try.func16, Try.ntmps16
    have hm0 : (w.alloc (.cells #[.int .i64 a0_0, .int .i64 a0_1, .int .i64 a0_2, .int .i64 a0_3, .int .i64 a0_4, .int .i64 a0_5, .int .i64 a0_6, .int .i64 a0_7, .slice A0_8 l0_8.length c0_8, .slice A0_9 l0_9.length c0_9, .slice A0_10 l0_10.length c0_10, .slice A0_11 l0_11.length c0_11] 29)).cell? ⟨w.heap.size, 0, none⟩ = some (.int .i64 a0_0) := (blk_cell HI0.out.b1 0).trans rfl
    have hm1 : (w.alloc (.cells #[.int .i64 a0_0, .int .i64 a0_1, .int .i64 a0_2, .int .i64 a0_3, .int .i64 a0_4, .int .i64 a0_5, .int .i64 a0_6, .int .i64 a0_7, .slice A0_8 l0_8.length c0_8, .slice A0_9 l0_9.length c0_9, .slice A0_10 l0_10.length c0_10, .slice A0_11 l0_11.length c0_11] 29)).cell? ⟨w.heap.size, 1, none⟩ = some (.int .i64 a0_1) := (blk_cell HI0.out.b1 1).trans rfl
    have hm2 : (w.alloc (.cells #[.int .i64 a0_0, .int .i64 a0_1, .int .i64 a0_2, .int .i64 a0_3, .int .i64 a0_4, .int .i64 a0_5, .int .i64 a0_6, .int .i64 a0_7, .slice A0_8 l0_8.length c0_8, .slice A0_9 l0_9.length c0_9, .slice A0_10 l0_10.length c0_10, .slice A0_11 l0_11.length c0_11] 29)).cell? ⟨w.heap.size, 2, none⟩ = some (.int .i64 a0_2) := (blk_cell HI0.out.b1 2).trans rfl
    have hm3 : (w.alloc (.cells #[.int .i64 a0_0, .int .i64 a0_1, .int .i64 a0_2, .int .i64 a0_3, .int .i64 a0_4, .int .i64 a0_5, .int .i64 a0_6, .int .i64 a0_7, .slice A0_8 l0_8.length c0_8, .slice A0_9 l0_9.length c0_9, .slice A0_10 l0_10.length c0_10, .slice A0_11 l0_11.length c0_11] 29)).cell? ⟨w.heap.size, 3, none⟩ = some (.int .i64 a0_3) := (blk_cell HI0.out.b1 3).trans rfl
    have hm4 : (w.alloc (.cells #[.int .i64 a0_0, .int .i64 a0_1, .int .i64 a0_2, .int .i64 a0_3, .int .i64 a0_4, .int .i64 a0_5, .int .i64 a0_6, .int .i64 a0_7, .slice A0_8 l0_8.length c0_8, .slice A0_9 l0_9.length c0_9, .slice A0_10 l0_10.length c0_10, .slice A0_11 l0_11.length c0_11] 29)).cell? ⟨w.heap.size, 4, none⟩ = some (.int .i64 a0_4) := (blk_cell HI0.out.b1 4).trans rfl
    have hm5 : (w.alloc (.cells #[.int .i64 a0_0, .int .i64 a0_1, .int .i64 a0_2, .int .i64 a0_3, .int .i64 a0_4, .int .i64 a0_5, .int .i64 a0_6, .int .i64 a0_7, .slice A0_8 l0_8.length c0_8, .slice A0_9 l0_9.length c0_9, .slice A0_10 l0_10.length c0_10, .slice A0_11 l0_11.length c0_11] 29)).cell? ⟨w.heap.size, 5, none⟩ = some (.int .i64 a0_5) := (blk_cell HI0.out.b1 5).trans rfl
    have hm6 : (w.alloc (.cells #[.int .i64 a0_0, .int .i64 a0_1, .int .i64 a0_2, .int .i64 a0_3, .int .i64 a0_4, .int .i64 a0_5, .int .i64 a0_6, .int .i64 a0_7, .slice A0_8 l0_8.length c0_8, .slice A0_9 l0_9.length c0_9, .slice A0_10 l0_10.length c0_10, .slice A0_11 l0_11.length c0_11] 29)).cell? ⟨w.heap.size, 6, none⟩ = some (.int .i64 a0_6) := (blk_cell HI0.out.b1 6).trans rfl
    have hm7 : (w.alloc (.cells #[.int .i64 a0_0, .int .i64 a0_1, .int .i64 a0_2, .int .i64 a0_3, .int .i64 a0_4, .int .i64 a0_5, .int .i64 a0_6, .int .i64 a0_7, .slice A0_8 l0_8.length c0_8, .slice A0_9 l0_9.length c0_9, .slice A0_10 l0_10.length c0_10, .slice A0_11 l0_11.length c0_11] 29)).cell? ⟨w.heap.size, 7, none⟩ = some (.int .i64 a0_7) := (blk_cell HI0.out.b1 7).trans rfl
    have hm8 : (w.alloc (.cells #[.int .i64 a0_0, .int .i64 a0_1, .int .i64 a0_2, .int .i64 a0_3, .int .i64 a0_4, .int .i64 a0_5, .int .i64 a0_6, .int .i64 a0_7, .slice A0_8 l0_8.length c0_8, .slice A0_9 l0_9.length c0_9, .slice A0_10 l0_10.length c0_10, .slice A0_11 l0_11.length c0_11] 29)).cell? ⟨w.heap.size, 8, none⟩ = some (.slice A0_8 l0_8.length c0_8) := (blk_cell HI0.out.b1 8).trans rfl
    have hm9 : (w.alloc (.cells #[.int .i64 a0_0, .int .i64 a0_1, .int .i64 a0_2, .int .i64 a0_3, .int .i64 a0_4, .int .i64 a0_5, .int .i64 a0_6, .int .i64 a0_7, .slice A0_8 l0_8.length c0_8, .slice A0_9 l0_9.length c0_9, .slice A0_10 l0_10.length c0_10, .slice A0_11 l0_11.length c0_11] 29)).cell? ⟨w.heap.size, 9, none⟩ = some (.slice A0_9 l0_9.length c0_9) := (blk_cell HI0.out.b1 9).trans rfl
    have hm10 : (w.alloc (.cells #[.int .i64 a0_0, .int .i64 a0_1, .int .i64 a0_2, .int .i64 a0_3, .int .i64 a0_4, .int .i64 a0_5, .int .i64 a0_6, .int .i64 a0_7, .slice A0_8 l0_8.length c0_8, .slice A0_9 l0_9.length c0_9, .slice A0_10 l0_10.length c0_10, .slice A0_11 l0_11.length c0_11] 29)).cell? ⟨w.heap.size, 10, none⟩ = some (.slice A0_10 l0_10.length c0_10) := (blk_cell HI0.out.b1 10).trans rfl
    have hm11 : (w.alloc (.cells #[.int .i64 a0_0, .int .i64 a0_1, .int .i64 a0_2, .int .i64 a0_3, .int .i64 a0_4, .int .i64 a0_5, .int .i64 a0_6, .int .i64 a0_7, .slice A0_8 l0_8.length c0_8, .slice A0_9 l0_9.length c0_9, .slice A0_10 l0_10.length c0_10, .slice A0_11 l0_11.length c0_11] 29)).cell? ⟨w.heap.size, 11, none⟩ = some (.slice A0_11 l0_11.length c0_11) := (blk_cell HI0.out.b1 11).trans rfl
    go_wp2_with (first | ((with_reducible refine gate_callee (f := 9) rfl ?_); refine goesL_ (some 9) rfl rfl Try.func9 (by kernel_rfl) rfl #[.agg #[.int .i64 a0_0, .int .i64 a0_1, .int .i64 a0_2, .int .i64 a0_3, .int .i64 a0_4, .int .i64 a0_5, .int .i64 a0_6, .int .i64 a0_7]] rfl (by (try simp only [List.map_toArray, List.map_cons, List.map_nil]); first | done | rfl) ?_; (with_reducible refine (ckpt_Config.calls k a0_0 a0_1 a0_2 a0_3 a0_4 a0_5 a0_6 a0_7 true _ HT.out).mono ?_); rintro e w1 ⟨rfl, hb⟩; refine ⟨_, rfl, ?_⟩; have HI := Aside0.mk (HI0.out.below hb); clear hb HI0; clear hm0 hm1 hm2 hm3 hm4 hm5 hm6 hm7 hm8 hm9 hm10 hm11; have hm0 : w1.cell? ⟨w.heap.size, 0, none⟩ = some (.int .i64 a0_0) := (blk_cell HI.out.b1 0).trans rfl; have hm1 : w1.cell? ⟨w.heap.size, 1, none⟩ = some (.int .i64 a0_1) := (blk_cell HI.out.b1 1).trans rfl; have hm2 : w1.cell? ⟨w.heap.size, 2, none⟩ = some (.int .i64 a0_2) := (blk_cell HI.out.b1 2).trans rfl; have hm3 : w1.cell? ⟨w.heap.size, 3, none⟩ = some (.int .i64 a0_3) := (blk_cell HI.out.b1 3).trans rfl; have hm4 : w1.cell? ⟨w.heap.size, 4, none⟩ = some (.int .i64 a0_4) := (blk_cell HI.out.b1 4).trans rfl; have hm5 : w1.cell? ⟨w.heap.size, 5, none⟩ = some (.int .i64 a0_5) := (blk_cell HI.out.b1 5).trans rfl; have hm6 : w1.cell? ⟨w.heap.size, 6, none⟩ = some (.int .i64 a0_6) := (blk_cell HI.out.b1 6).trans rfl; have hm7 : w1.cell? ⟨w.heap.size, 7, none⟩ = some (.int .i64 a0_7) := (blk_cell HI.out.b1 7).trans rfl; have hm8 : w1.cell? ⟨w.heap.size, 8, none⟩ = some (.slice A0_8 l0_8.length c0_8) := (blk_cell HI.out.b1 8).trans rfl; have hm9 : w1.cell? ⟨w.heap.size, 9, none⟩ = some (.slice A0_9 l0_9.length c0_9) := (blk_cell HI.out.b1 9).trans rfl; have hm10 : w1.cell? ⟨w.heap.size, 10, none⟩ = some (.slice A0_10 l0_10.length c0_10) := (blk_cell HI.out.b1 10).trans rfl; have hm11 : w1.cell? ⟨w.heap.size, 11, none⟩ = some (.slice A0_11 l0_11.length c0_11) := (blk_cell HI.out.b1 11).trans rfl; have HN := Aside0.mk (HI.out.below (below_alloc (Below.refl _ _) (.cells #[.bool ((l0_9.length : Int) == a0_2)] 4))); have hn9 : (w1.alloc (.cells #[.bool ((l0_9.length : Int) == a0_2)] 4)).cell? ⟨w.heap.size, 9, none⟩ = some (.slice A0_9 l0_9.length c0_9) := (blk_cell HN.out.b1 9).trans rfl))
    obtain ⟨g, hg⟩ : ∃ g, g = w1.heap.size := ⟨_, rfl⟩
    obtain ⟨b0, hb0⟩ : ∃ b0, b0 = ((l0_9.length : Int) == a0_2) := ⟨_, rfl⟩
    have HB : Aside0 (CkTwo w w.heap.size g 29 4 #[.int .i64 a0_0, .int .i64 a0_1, .int .i64 a0_2, .int .i64 a0_3, .int .i64 a0_4, .int .i64 a0_5, .int .i64 a0_6, .int .i64 a0_7, .slice A0_8 l0_8.length c0_8, .slice A0_9 l0_9.length c0_9, .slice A0_10 l0_10.length c0_10, .slice A0_11 l0_11.length c0_11] #[.bool b0] (w1.alloc (.cells #[.bool ((l0_9.length : Int) == a0_2)] 4))) := by
      rw [hb0, hg]
      exact ⟨⟨HN.out.b1, blk_new w1 _, HN.out.bl, Nat.le_refl _, blk_lt HI.out.b1⟩⟩
    rw [← hg]
    clear hg HN HI hn9 hm0 hm1 hm2 hm3 hm4 hm5 hm6 hm7 hm8 hm9 hm10 hm11
    generalize w1.alloc _ = w2 at HB ⊢
    have HI := HB
    clear HB
    have HB0 := Aside0.mk hb0
    clear hb0
    obtain ⟨nx, hnx⟩ : ∃ nx, mx a0_5 1 = nx := ⟨_, rfl⟩
    have hmx : (if a0_5 < 1 then (1 : Int) else a0_5) = nx := hnx
    have HNX := Aside0.mk hnx
    clear hnx
    go_loopg [21] l0_9.length (fun kq v21 wr => ∃ (i : Nat) (b : Bool), v21 = .int .i64 (i : Int) ∧ i + kq = l0_9.length ∧ Aside0 (b = (b0 && (l0_9.take i).all (fun g => fitU g nx))) ∧ Aside0 (CkTwo w w.heap.size g 29 4 #[.int .i64 a0_0, .int .i64 a0_1, .int .i64 a0_2, .int .i64 a0_3, .int .i64 a0_4, .int .i64 a0_5, .int .i64 a0_6, .int .i64 a0_7, .slice A0_8 l0_8.length c0_8, .slice A0_9 l0_9.length c0_9, .slice A0_10 l0_10.length c0_10, .slice A0_11 l0_11.length c0_11] #[.bool b] wr))
    case atStart => exact ⟨0, b0, rfl, by omega, ⟨by simp⟩, HI⟩
    case round =>
      obtain ⟨i, b, rfl, hik, HF, HI2⟩ := hrel
      clear HI
      have HI := HI2
      clear HI2
      have hlen : (l0_9.length : Int) ≤ 9223372036854775807 := by have := HR.out.2.1; omega
      by_cases ci : i < l0_9.length
      · have cb : decide ((i : Int) < (l0_9.length : Int)) = true := decide_eq_true (by omega)
        have cp := eq_true (show 0 ≤ (i : Int) by omega)
        have cq := eq_true (show (i : Int) < (l0_9.length : Int) by omega)
        have HTK := Aside0.mk (ck_take ci)
        obtain ⟨ad, X0, y0, X1, y1, X2, y2, X3, y3, X4, y4, X5, y5, X6, y6, X7, y7, X8, y8, e_, hx0, hx1, hx2, hx3, hx4, hx5, hx6, hx7, hx8, _⟩ := at_T59 HR.out (i : Int) (by omega) (by omega)
        subst e_
        rw [Int.toNat_natCast] at hx0 hx1 hx2 hx3 hx4 hx5 hx6 hx7 hx8
        replace hx0 := (HI.out.bl.cell (World.block_lt_of_cell? w _ hx0)).trans hx0
        replace hx1 := (HI.out.bl.cell (World.block_lt_of_cell? w _ hx1)).trans hx1
        replace hx2 := (HI.out.bl.cell (World.block_lt_of_cell? w _ hx2)).trans hx2
        replace hx3 := (HI.out.bl.cell (World.block_lt_of_cell? w _ hx3)).trans hx3
        replace hx4 := (HI.out.bl.cell (World.block_lt_of_cell? w _ hx4)).trans hx4
        replace hx5 := (HI.out.bl.cell (World.block_lt_of_cell? w _ hx5)).trans hx5
        replace hx6 := (HI.out.bl.cell (World.block_lt_of_cell? w _ hx6)).trans hx6
        replace hx7 := (HI.out.bl.cell (World.block_lt_of_cell? w _ hx7)).trans hx7
        replace hx8 := (HI.out.bl.cell (World.block_lt_of_cell? w _ hx8)).trans hx8
        generalize rd_T59 l0_9 (i : Int) = G at *
        have HA := Aside0.mk (HI.out.below (below_alloc (Below.refl _ _) (.cells #[.slice X0 G.f0.length y0, .slice X1 G.f1.length y1, .slice X2 G.f2.length y2, .slice X3 G.f3.length y3, .slice X4 G.f4.length y4, .slice X5 G.f5.length y5, .slice X6 G.f6.length y6, .slice X7 G.f7.length y7, .slice X8 G.f8.length y8] 59)))
        have hk5 : (wr.alloc (.cells #[.slice X0 G.f0.length y0, .slice X1 G.f1.length y1, .slice X2 G.f2.length y2, .slice X3 G.f3.length y3, .slice X4 G.f4.length y4, .slice X5 G.f5.length y5, .slice X6 G.f6.length y6, .slice X7 G.f7.length y7, .slice X8 G.f8.length y8] 59)).cell? ⟨w.heap.size, 5, none⟩ = some (.int .i64 a0_5) := (blk_cell HA.out.b1 5).trans rfl
        have hk0 : (wr.alloc (.cells #[.slice X0 G.f0.length y0, .slice X1 G.f1.length y1, .slice X2 G.f2.length y2, .slice X3 G.f3.length y3, .slice X4 G.f4.length y4, .slice X5 G.f5.length y5, .slice X6 G.f6.length y6, .slice X7 G.f7.length y7, .slice X8 G.f8.length y8] 59)).cell? ⟨g, 0, none⟩ = some (.bool b) := (blk_cell HA.out.b2 0).trans rfl
        have hkf := blk_frozen HA.out.b2 0
        have hz7 : (wr.alloc (.cells #[.slice X0 G.f0.length y0, .slice X1 G.f1.length y1, .slice X2 G.f2.length y2, .slice X3 G.f3.length y3, .slice X4 G.f4.length y4, .slice X5 G.f5.length y5, .slice X6 G.f6.length y6, .slice X7 G.f7.length y7, .slice X8 G.f8.length y8] 59)).cell? ⟨wr.heap.size, 7, none⟩ = some (.slice X7 G.f7.length y7) := (blk_cell (blk_new wr _) 7).trans rfl
        have hz8 : (wr.alloc (.cells #[.slice X0 G.f0.length y0, .slice X1 G.f1.length y1, .slice X2 G.f2.length y2, .slice X3 G.f3.length y3, .slice X4 G.f4.length y4, .slice X5 G.f5.length y5, .slice X6 G.f6.length y6, .slice X7 G.f7.length y7, .slice X8 G.f8.length y8] 59)).cell? ⟨wr.heap.size, 8, none⟩ = some (.slice X8 G.f8.length y8) := (blk_cell (blk_new wr _) 8).trans rfl
        cases b with
        | false =>
          go_wp2
          go_roundg (l0_9.length - i - 1)
          case measure => omega
          case rel =>
            refine ⟨i + 1, false, by simp, by omega, ⟨?_⟩, ⟨HA.out.set _⟩⟩
            have h := HF.out
            rw [HTK.out, List.all_append, ← Bool.and_assoc, ← h]
            rfl
        | true =>
          by_cases c7 : (G.f7.length : Int) = nx
          · have e7 : ((G.f7.length : Int) == nx) = true := beq_iff_eq.mpr c7
            by_cases c8 : (G.f8.length : Int) = nx
            · have e8 : ((G.f8.length : Int) == nx) = true := beq_iff_eq.mpr c8
              go_wp2
              go_roundg (l0_9.length - i - 1)
              case measure => omega
              case rel =>
                refine ⟨i + 1, true, by simp, by omega, ⟨?_⟩, ⟨HA.out.set _⟩⟩
                have h := HF.out
                rw [HTK.out, List.all_append, ← Bool.and_assoc, ← h]
                simp [fitU, c7, c8]
            · have e8 : ((G.f8.length : Int) == nx) = false := beq_eq_false_iff_ne.mpr c8
              go_wp2
              go_roundg (l0_9.length - i - 1)
              case measure => omega
              case rel =>
                refine ⟨i + 1, false, by simp, by omega, ⟨?_⟩, ⟨HA.out.set _⟩⟩
                have h := HF.out
                rw [HTK.out, List.all_append, ← Bool.and_assoc, ← h]
                simp [fitU, c8]
          · have e7 : ((G.f7.length : Int) == nx) = false := beq_eq_false_iff_ne.mpr c7
            go_wp2
            go_roundg (l0_9.length - i - 1)
            case measure => omega
            case rel =>
              refine ⟨i + 1, false, by simp, by omega, ⟨?_⟩, ⟨HA.out.set _⟩⟩
              have h := HF.out
              rw [HTK.out, List.all_append, ← Bool.and_assoc, ← h]
              simp [fitU, c7]
      · have cb : decide ((i : Int) < (l0_9.length : Int)) = false := decide_eq_false (by omega)
        obtain rfl : i = l0_9.length := by omega
        have hF := HF.out
        rw [List.take_length] at hF
        have hk0 : wr.cell? ⟨g, 0, none⟩ = some (.bool b) := (blk_cell HI.out.b2 0).trans rfl
        cases b with
        | false =>
          clear hF
          go_wp2
          go_ret
          refine ⟨?_, HI.out.bl⟩
          have hN := HNX.out
          have hM : ¬ fitM a0_0 a0_2 a0_3 a0_4 a0_5 l0_8 l0_9 l0_10 l0_11 = true := by
            have hF := HF.out
            rw [List.take_length, HB0.out, ← hN] at hF
            intro hM
            simp only [fitM, Bool.and_eq_true, decide_eq_true_eq] at hM
            rw [hM.2.1, hM.1] at hF
            simp at hF
          rw [HW.out, if_neg hM]
          rfl
        | true =>
          have hN := HNX.out
          rw [HB0.out, ← hN] at hF
          have hF2 := Bool.and_eq_true_iff.1 hF.symm
          have VC := Aside0.mk (ckpt_Check_visit a0_0 a0_1 a0_2 a0_3 a0_4 a0_5 a0_6 a0_7 A0_8 c0_8 l0_8 A0_9 c0_9 l0_9 A0_10 c0_10 l0_10 A0_11 c0_11 l0_11 w wr g HR8.out HR.out HR10.out HR11.out HI.out HRN.out (beq_iff_eq.1 hF2.1) hF2.2)
          have HFF := Aside0.mk hF2
          by_cases cR : (rowsM (mx a0_5 1).toNat l0_8 l0_9 l0_10 l0_11).map (fun l => (l.length : Int)) = sizesM l0_9.length (mx a0_5 1).toNat a0_0 a0_3 a0_4 a0_5
          · have hM : fitM a0_0 a0_2 a0_3 a0_4 a0_5 l0_8 l0_9 l0_10 l0_11 = true := by
              simp only [fitM, Bool.and_eq_true, decide_eq_true_eq]
              exact ⟨beq_iff_eq.1 hF2.1, hF2.2, cR⟩
            rw [decide_eq_true cR] at VC
            have HM := Aside0.mk hM
            clear hF hF2 hN cR hM
            go_wp2_with (first | ((with_reducible refine gate_callee (f := 30) rfl ?_); refine goesL_ (some 48) rfl rfl Try.func30 (by kernel_rfl) rfl #[.pointer (some ⟨w.heap.size, 0, none⟩), .func (.func 42) #[] #[.pointer (some ⟨g, 0, none⟩)]] rfl (by (try simp only [List.map_toArray, List.map_cons, List.map_nil]); first | done | rfl) ?_; (with_reducible refine VC.out.mono ?_); rintro e wq ⟨⟨uu, rfl⟩, hV⟩; refine ⟨_, rfl, ?_⟩; have HV := Aside0.mk hV; clear hV VC HI; clear hk0; have hk0 : wq.cell? ⟨g, 0, none⟩ = some (.bool true) := (blk_cell HV.out.b2 0).trans rfl))
            go_ret
            refine ⟨?_, HV.out.bl⟩
            rw [HW.out, if_pos HM.out]
            rfl
          · have hM : ¬ fitM a0_0 a0_2 a0_3 a0_4 a0_5 l0_8 l0_9 l0_10 l0_11 = true := by
              simp only [fitM, Bool.and_eq_true, decide_eq_true_eq]
              exact fun h => cR h.2.2
            rw [decide_eq_false cR] at VC
            have HM := Aside0.mk hM
            clear hF hF2 hN cR hM
            go_wp2_with (first | ((with_reducible refine gate_callee (f := 30) rfl ?_); refine goesL_ (some 48) rfl rfl Try.func30 (by kernel_rfl) rfl #[.pointer (some ⟨w.heap.size, 0, none⟩), .func (.func 42) #[] #[.pointer (some ⟨g, 0, none⟩)]] rfl (by (try simp only [List.map_toArray, List.map_cons, List.map_nil]); first | done | rfl) ?_; (with_reducible refine VC.out.mono ?_); rintro e wq ⟨⟨uu, rfl⟩, hV⟩; refine ⟨_, rfl, ?_⟩; have HV := Aside0.mk hV; clear hV VC HI; clear hk0; have hk0 : wq.cell? ⟨g, 0, none⟩ = some (.bool false) := (blk_cell HV.out.b2 0).trans rfl))
            go_ret
            refine ⟨?_, HV.out.bl⟩
            rw [HW.out, if_neg HM.out]
            rfl

end Go.Proofs.Ytdlinhegmplgiaa.PCkptChecks
