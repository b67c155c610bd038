/- A text of the session: functions of the program and their walks, laid by a program of its own (wip/tools/mkprint.py) over the translation. No condition. -/
import Derived.Test.YtdlinhegmplgiaaPCkptConfigsx0
import Derived.Test.YtdlinhegmplgiaaPCkptConfigsx2
namespace Go.Proofs.Ytdlinhegmplgiaa.PCkptConfigs
open Go.RowKit Go.Proofs.YtdlinhegmplgiaaW.PrintWords Go.Proofs.YtdlinhegmplgiaaW.PrintLast Go.Proofs.YtdlinhegmplgiaaW.PrintMore
attribute [local go_sem] max2_int min2_int max_two min_two max_three min_three max_four min_four   -- for this text's walks alone
set_option linter.unusedVariables false
set_option linter.unusedSimpArgs false

/-! ### ckpt_Size: function 11 -/
attribute [local go_sem] max2_int max_two
theorem goesLC_ {P : Program} {ops : Array Oper} {Q : Exit → Act → World → Prop} {rest : List Oper} {oi : Oper} {a : Act} {w : World} (N : Option Tmp) (hd : oi.dst = N) (hg : oi.guard = none) {f : FuncId} {fn : Func} {op : Operand} {asz : Array Operand} {ts : Array TypeId} (hf : P.funcs[f]? = some fn) (hname : (fn.name == "runtime.NumGoroutine") = false) (hb : fn.body.isSome = true) (first cap args all : Array Value) (hall : first ++ args ++ cap = all)
    (hop : oi.op = .call { callee := .value op, args := asz, argTypes := ts }) (hfun : a.eval op = .func (.func f) first cap) (hargs : asz.map a.eval = args)
    (h : Calls P f all w fun e w' => ∃ v, e = .returned v ∧ wpList P ops Q rest (a.put N v) w') : wpList P ops Q (oi :: rest) a w := by
  refine wpList_plain hg fun K hK => ?_
  subst hall
  have he := enters_ hf hname hb (first ++ args ++ cap) w
  have hrun : (execOp a.eval oi).run P w = .ok (.enter f (first ++ args ++ cap)) w := by
    unfold execOp
    rw [Array.append_assoc] at he ⊢
    simp [hop, resolve, Deferred.ofValue, invoke, hfun, hargs, he]
  unfold Oper.wp
  rw [hrun, Oper.upon_enter]
  refine h.mono fun e w'' hh => ?_
  obtain ⟨v, rfl, hk⟩ := hh
  subst hd
  exact hK _ _ hk
theorem below_setCells_ {B : Nat} {w0 : World} {g : Nat} (hg : B ≤ g) : ∀ (vs : List Value) (o : Nat) {w : World}, Below B w0 w → Below B w0 (w.setCells g o vs)
  | [], _, _, h => h
  | v :: r, o, w, h => below_setCells_ hg r (o + 1) (h.setCell (p := ⟨g, o, none⟩) hg v)
theorem ww (z : Int) : wrap64 (wrap64 z) = wrap64 z := by unfold wrap64; omega
theorem wrap_run (T n x : Int) (h : wrap64 n = wrap64 x) : wrap64 (wrap64 T + n) = wrap64 (T + x) := by
  unfold wrap64 at h ⊢
  omega
structure Vis (B g bm bc bl : Nat) (ml : Value) (c : Array Value) (lay : Array Value) (w0 : World) (T : Int) (w : World) : Prop where
  hg : w.heap[g]? = some (.cells #[.int .i64 (wrap64 T)] 3 (0, 0))
  hm : w.heap[bm]? = some (.cells (c ++ #[.slice none 0 0, ml, .slice none 0 0, .slice none 0 0]) 29 (0, 0))
  hc : w.heap[bc]? = some (.cells c 23 (0, 0))
  hl : w.heap[bl]? = some (.cells lay 59 (0, 0))
  hb : Below B w0 w
  hB : B ≤ g
theorem Vis.drew {B g bm bc bl : Nat} {ml : Value} {c : Array Value} {lay : Array Value} {w0 : World} {T : Int} {w : World} (h : Vis B g bm bc bl ml c lay w0 T w) : Vis B g bm bc bl ml c lay w0 T w.drew := ⟨h.hg, h.hm, h.hc, h.hl, h.hb.drew, h.hB⟩
theorem Vis.drewN {B g bm bc bl : Nat} {ml : Value} {c : Array Value} {lay : Array Value} {w0 : World} {T : Int} {w : World} (h : Vis B g bm bc bl ml c lay w0 T w) (n : Nat) : Vis B g bm bc bl ml c lay w0 T (w.drewN n) := ⟨h.hg, h.hm, h.hc, h.hl, pw_below_drewN h.hb n, h.hB⟩
set_option maxHeartbeats 8000000 in
set_option maxRecDepth 100000 in
theorem ckpt_Size_1.calls (B g bm bc bl : Nat) (ml : Value) (c : Array Value) (lay : Array Value) (w0 : World) (T : Int) (w : World) (v : Value) (n x : Int) (hn : wrap64 n = wrap64 x) (h : Vis B g bm bc bl ml c lay w0 T w) :
    Calls Try.prog 31 #[v, .int .i64 n, .pointer (some ⟨g, 0, none⟩)] w fun e w' => (∃ u, e = .returned u) ∧ Vis B g bm bc bl ml c lay w0 (T + x) w' := by
  have hx := (blk_cell h.hg 0).trans rfl
  have hf := blk_frozen h.hg 0
  have hv : Vis B g bm bc bl ml c lay w0 (T + x) (w.setCell ⟨g, 0, none⟩ (.int .i64 (wrap64 (wrap64 T + n)))) := by
    refine ⟨?_, blk_far h.hm (blk_ne h.hm h.hg (by decide)) _, ?_, ?_, h.hb.setCell h.hB _, h.hB⟩
    · rw [wrap_run T n x hn]; exact blk_set h.hg 0 _
    · exact blk_far h.hc (blk_ne h.hc h.hg (by decide)) _
    · exact blk_far h.hl (blk_ne h.hl h.hg (by decide)) _
  clear h
  have HV := Aside0.mk hv
  clear hv
  go_enter Try.func31, Try.ntmps31
  go_wp2
  go_end0
  exact ⟨⟨_, rfl⟩, HV.out⟩
set_option maxHeartbeats 8000000 in
set_option maxRecDepth 100000 in
theorem ckpt_visit.calls (B g bm bl n k : Nat) (c0 c1 c2 c3 c4 c5 c6 c7 : Int) (lay : Array Value) (w0 : World) (T : Int) (w : World) (hn2 : n ≤ 2) (hk4 : k ≤ 4)
    (hlay : ∀ i, i < n → ∃ u d, lay[i * 9 + 7]? = some (.slice (some ⟨u, 0, none⟩) k k) ∧ lay[i * 9 + 8]? = some (.slice (some ⟨d, 0, none⟩) k k))
    (hg : w.heap[g]? = some (.cells #[.int .i64 (wrap64 T)] 3 (0, 0)))
    (hm : w.heap[bm]? = some (.cells #[.int .i64 c0, .int .i64 c1, .int .i64 c2, .int .i64 c3, .int .i64 c4, .int .i64 c5, .int .i64 c6, .int .i64 c7, .slice none 0 0, .slice (some ⟨bl, 0, none⟩) n n, .slice none 0 0, .slice none 0 0] 29 (0, 0)))
    (hl : w.heap[bl]? = some (.cells lay 59 (0, 0))) (hb : Below B w0 w) (hB : B ≤ g) :
    Calls Try.prog 30 #[.pointer (some ⟨bm, 0, none⟩), .func (.func 31) #[] #[.pointer (some ⟨g, 0, none⟩)]] w fun e w' => (∃ u, e = .returned u) ∧ w'.heap[g]? = some (.cells #[.int .i64 (wrap64 (T + c3 * c0 + (n : Int) * (2 * c0 + 4 * (c0 * c0) + c5 * c0 + (k : Int) * (2 * (c4 * c0))) + c0 + c3 * c0))] 3 (0, 0)) ∧ Below B w0 w' := by
  have hu23 := Try.underlying23
  have hu29 := Try.underlying29
  have hu59 := Try.underlying59
  have hx0 : w.cell? ⟨bm, 0, none⟩ = some (.int .i64 c0) := (blk_cell hm 0).trans rfl
  have hx1 : w.cell? ⟨bm, 1, none⟩ = some (.int .i64 c1) := (blk_cell hm 1).trans rfl
  have hx2 : w.cell? ⟨bm, 2, none⟩ = some (.int .i64 c2) := (blk_cell hm 2).trans rfl
  have hx3 : w.cell? ⟨bm, 3, none⟩ = some (.int .i64 c3) := (blk_cell hm 3).trans rfl
  have hx4 : w.cell? ⟨bm, 4, none⟩ = some (.int .i64 c4) := (blk_cell hm 4).trans rfl
  have hx5 : w.cell? ⟨bm, 5, none⟩ = some (.int .i64 c5) := (blk_cell hm 5).trans rfl
  have hx6 : w.cell? ⟨bm, 6, none⟩ = some (.int .i64 c6) := (blk_cell hm 6).trans rfl
  have hx7 : w.cell? ⟨bm, 7, none⟩ = some (.int .i64 c7) := (blk_cell hm 7).trans rfl
  have hf0 := blk_frozen hm 0
  have HG := Aside0.mk hg
  have HM := Aside0.mk hm
  have HL := Aside0.mk hl
  have HB := Aside0.mk hb
  have HLAY := Aside0.mk hlay
  clear hg hm hl hb hlay
  go_enter Try.func30, Try.ntmps30
  go_wp2
  have hbc := blk_new w (.cells #[.int .i64 c0, .int .i64 c1, .int .i64 c2, .int .i64 c3, .int .i64 c4, .int .i64 c5, .int .i64 c6, .int .i64 c7] 23)
  have hV : Vis B g bm w.heap.size bl (.slice (some ⟨bl, 0, none⟩) n n) #[.int .i64 c0, .int .i64 c1, .int .i64 c2, .int .i64 c3, .int .i64 c4, .int .i64 c5, .int .i64 c6, .int .i64 c7] lay w0 T (w.alloc (.cells #[.int .i64 c0, .int .i64 c1, .int .i64 c2, .int .i64 c3, .int .i64 c4, .int .i64 c5, .int .i64 c6, .int .i64 c7] 23)) :=
    ⟨blk_alloc HG.out _, blk_alloc HM.out _, hbc, blk_alloc HL.out _, HB.out.alloc (Nat.le_trans hB (Nat.le_of_lt (blk_lt HG.out))) _, hB⟩
  clear hbc hx0 hx1 hx2 hx3 hx4 hx5 hx6 hx7 hf0 HG HM HL HB
  generalize w.heap.size = bc at hV ⊢
  generalize w.alloc _ = w1 at hV ⊢
  have HV := Aside0.mk hV
  clear hV
  have hy0 : w1.cell? ⟨bc, 0, none⟩ = some (.int .i64 c0) := (blk_cell HV.out.hc 0).trans rfl; have hy3 : w1.cell? ⟨bc, 3, none⟩ = some (.int .i64 c3) := (blk_cell HV.out.hc 3).trans rfl; have hy4 : w1.cell? ⟨bc, 4, none⟩ = some (.int .i64 c4) := (blk_cell HV.out.hc 4).trans rfl; have hy5 : w1.cell? ⟨bc, 5, none⟩ = some (.int .i64 c5) := (blk_cell HV.out.hc 5).trans rfl; have hy9 : w1.cell? ⟨bm, 9, none⟩ = some (.slice (some ⟨bl, 0, none⟩) n n) := (blk_cell HV.out.hm 9).trans rfl
  go_quiet (fail)
  have HV2 := Aside0.mk (HV.out.drewN nq)
  clear HV
  clear hy0 hy3 hy4 hy5 hy9
  have HV := HV2
  clear HV2
  generalize w1.drewN nq = w2 at HV ⊢
  have hy0 : w2.cell? ⟨bc, 0, none⟩ = some (.int .i64 c0) := (blk_cell HV.out.hc 0).trans rfl; have hy3 : w2.cell? ⟨bc, 3, none⟩ = some (.int .i64 c3) := (blk_cell HV.out.hc 3).trans rfl; have hy4 : w2.cell? ⟨bc, 4, none⟩ = some (.int .i64 c4) := (blk_cell HV.out.hc 4).trans rfl; have hy5 : w2.cell? ⟨bc, 5, none⟩ = some (.int .i64 c5) := (blk_cell HV.out.hc 5).trans rfl; have hy9 : w2.cell? ⟨bm, 9, none⟩ = some (.slice (some ⟨bl, 0, none⟩) n n) := (blk_cell HV.out.hm 9).trans rfl
  go_wp2
  go_still_tail 9, (by kernel_rfl)
  change wpList _ _ _ _ _ w2.drew
  go_wp2_with (first | ((with_reducible refine gate_dst (N := 33) rfl ?_); refine goesLC_ (some 33) rfl rfl Try.func31 (by kernel_rfl) rfl #[] #[.pointer (some ⟨g, 0, none⟩)] #[.pointer (some ⟨bm, 8, none⟩), .int .i64 (IntKind.i64.wrap (c3 * c0))] #[.pointer (some ⟨bm, 8, none⟩), .int .i64 (IntKind.i64.wrap (c3 * c0)), .pointer (some ⟨g, 0, none⟩)] rfl rfl rfl (by (try simp only [List.map_toArray, List.map_cons, List.map_nil]); rfl) ?_; (try simp only [i64_w]); refine (ckpt_Size_1.calls B g bm bc bl _ _ lay w0 _ _ _ _ (c3 * c0) (ww _) HV.out.drew).mono ?_; rintro e w3 ⟨⟨u, rfl⟩, hv⟩; refine ⟨_, rfl, ?_⟩; have HV2 := Aside0.mk hv; clear hv; clear HV; have HV := HV2; clear HV2; clear hy0 hy3 hy4 hy5 hy9; have hy0 : w3.cell? ⟨bc, 0, none⟩ = some (.int .i64 c0) := (blk_cell HV.out.hc 0).trans rfl; have hy3 : w3.cell? ⟨bc, 3, none⟩ = some (.int .i64 c3) := (blk_cell HV.out.hc 3).trans rfl; have hy4 : w3.cell? ⟨bc, 4, none⟩ = some (.int .i64 c4) := (blk_cell HV.out.hc 4).trans rfl; have hy5 : w3.cell? ⟨bc, 5, none⟩ = some (.int .i64 c5) := (blk_cell HV.out.hc 5).trans rfl; have hy9 : w3.cell? ⟨bm, 9, none⟩ = some (.slice (some ⟨bl, 0, none⟩) n n) := (blk_cell HV.out.hm 9).trans rfl))
  obtain ⟨L, hL⟩ : ∃ L : Int, L = 2 * c0 + 4 * (c0 * c0) + c5 * c0 + (k : Int) * (2 * (c4 * c0)) := ⟨_, rfl⟩
  have KL := Aside0.mk hL
  clear hL
  go_loopg [39] n (fun kq v39 wr => ∃ i : Nat, v39 = .int .i64 (i : Int) ∧ i + kq = n ∧ Aside0 (Vis B g bm bc bl (.slice (some ⟨bl, 0, none⟩) n n) #[.int .i64 c0, .int .i64 c1, .int .i64 c2, .int .i64 c3, .int .i64 c4, .int .i64 c5, .int .i64 c6, .int .i64 c7] lay w0 (T + c3 * c0 + (i : Int) * L) wr))
  case atStart =>
    refine ⟨0, rfl, by omega, ⟨?_⟩⟩
    have h := HV.out
    simpa using h
  case round =>
    obtain ⟨i, rfl, hik, HV0⟩ := hrel
    clear HV
    have HV := HV0
    clear HV0
    clear hy0 hy3 hy4 hy5 hy9
    have hy0 : wr.cell? ⟨bc, 0, none⟩ = some (.int .i64 c0) := (blk_cell HV.out.hc 0).trans rfl; have hy3 : wr.cell? ⟨bc, 3, none⟩ = some (.int .i64 c3) := (blk_cell HV.out.hc 3).trans rfl; have hy4 : wr.cell? ⟨bc, 4, none⟩ = some (.int .i64 c4) := (blk_cell HV.out.hc 4).trans rfl; have hy5 : wr.cell? ⟨bc, 5, none⟩ = some (.int .i64 c5) := (blk_cell HV.out.hc 5).trans rfl; have hy9 : wr.cell? ⟨bm, 9, none⟩ = some (.slice (some ⟨bl, 0, none⟩) n n) := (blk_cell HV.out.hm 9).trans rfl
    by_cases ci : i < n
    · have cb : decide ((i : Int) < (n : Int)) = true := decide_eq_true (by omega)
      have cp := eq_true (show 0 ≤ (i : Int) by omega)
      have cq := eq_true (show (i : Int) < (n : Int) by omega)
      obtain ⟨u7, u8, hlu, hld⟩ := HLAY.out i ci
      go_wp2
      go_still_tail 6, (by kernel_rfl)
      change wpList _ _ _ _ _ wr.drew
      go_wp2_with (first | ((with_reducible refine gate_dst (N := 54) rfl ?_); refine goesLC_ (some 54) rfl rfl Try.func31 (by kernel_rfl) rfl #[] #[.pointer (some ⟨g, 0, none⟩)] #[.pointer (some ⟨bl, i * 9, none⟩), .int .i64 (c0)] #[.pointer (some ⟨bl, i * 9, none⟩), .int .i64 (c0), .pointer (some ⟨g, 0, none⟩)] rfl rfl rfl (by (try simp only [List.map_toArray, List.map_cons, List.map_nil]); rfl) ?_; (try simp only [i64_w]); refine (ckpt_Size_1.calls B g bm bc bl _ _ lay w0 _ _ _ _ (c0) (rfl) HV.out.drew).mono ?_; rintro e wn ⟨⟨u, rfl⟩, hv⟩; refine ⟨_, rfl, ?_⟩; have HV2 := Aside0.mk hv; clear hv; clear HV; have HV := HV2; clear HV2; clear hy0 hy3 hy4 hy5 hy9; have hy0 : wn.cell? ⟨bc, 0, none⟩ = some (.int .i64 c0) := (blk_cell HV.out.hc 0).trans rfl; have hy3 : wn.cell? ⟨bc, 3, none⟩ = some (.int .i64 c3) := (blk_cell HV.out.hc 3).trans rfl; have hy4 : wn.cell? ⟨bc, 4, none⟩ = some (.int .i64 c4) := (blk_cell HV.out.hc 4).trans rfl; have hy5 : wn.cell? ⟨bc, 5, none⟩ = some (.int .i64 c5) := (blk_cell HV.out.hc 5).trans rfl; have hy9 : wn.cell? ⟨bm, 9, none⟩ = some (.slice (some ⟨bl, 0, none⟩) n n) := (blk_cell HV.out.hm 9).trans rfl) | ((with_reducible refine gate_dst (N := 60) rfl ?_); refine goesLC_ (some 60) rfl rfl Try.func31 (by kernel_rfl) rfl #[] #[.pointer (some ⟨g, 0, none⟩)] #[.pointer (some ⟨bl, i * 9 + 1, none⟩), .int .i64 (wrap64 (c0 * c0))] #[.pointer (some ⟨bl, i * 9 + 1, none⟩), .int .i64 (wrap64 (c0 * c0)), .pointer (some ⟨g, 0, none⟩)] rfl rfl rfl (by (try simp only [List.map_toArray, List.map_cons, List.map_nil]); rfl) ?_; (try simp only [i64_w]); refine (ckpt_Size_1.calls B g bm bc bl _ _ lay w0 _ _ _ _ (c0 * c0) (ww _) HV.out).mono ?_; rintro e wn ⟨⟨u, rfl⟩, hv⟩; refine ⟨_, rfl, ?_⟩; have HV2 := Aside0.mk hv; clear hv; clear HV; have HV := HV2; clear HV2; clear hy0 hy3 hy4 hy5 hy9; have hy0 : wn.cell? ⟨bc, 0, none⟩ = some (.int .i64 c0) := (blk_cell HV.out.hc 0).trans rfl; have hy3 : wn.cell? ⟨bc, 3, none⟩ = some (.int .i64 c3) := (blk_cell HV.out.hc 3).trans rfl; have hy4 : wn.cell? ⟨bc, 4, none⟩ = some (.int .i64 c4) := (blk_cell HV.out.hc 4).trans rfl; have hy5 : wn.cell? ⟨bc, 5, none⟩ = some (.int .i64 c5) := (blk_cell HV.out.hc 5).trans rfl; have hy9 : wn.cell? ⟨bm, 9, none⟩ = some (.slice (some ⟨bl, 0, none⟩) n n) := (blk_cell HV.out.hm 9).trans rfl) | ((with_reducible refine gate_dst (N := 66) rfl ?_); refine goesLC_ (some 66) rfl rfl Try.func31 (by kernel_rfl) rfl #[] #[.pointer (some ⟨g, 0, none⟩)] #[.pointer (some ⟨bl, i * 9 + 2, none⟩), .int .i64 (wrap64 (c0 * c0))] #[.pointer (some ⟨bl, i * 9 + 2, none⟩), .int .i64 (wrap64 (c0 * c0)), .pointer (some ⟨g, 0, none⟩)] rfl rfl rfl (by (try simp only [List.map_toArray, List.map_cons, List.map_nil]); rfl) ?_; (try simp only [i64_w]); refine (ckpt_Size_1.calls B g bm bc bl _ _ lay w0 _ _ _ _ (c0 * c0) (ww _) HV.out).mono ?_; rintro e wn ⟨⟨u, rfl⟩, hv⟩; refine ⟨_, rfl, ?_⟩; have HV2 := Aside0.mk hv; clear hv; clear HV; have HV := HV2; clear HV2; clear hy0 hy3 hy4 hy5 hy9; have hy0 : wn.cell? ⟨bc, 0, none⟩ = some (.int .i64 c0) := (blk_cell HV.out.hc 0).trans rfl; have hy3 : wn.cell? ⟨bc, 3, none⟩ = some (.int .i64 c3) := (blk_cell HV.out.hc 3).trans rfl; have hy4 : wn.cell? ⟨bc, 4, none⟩ = some (.int .i64 c4) := (blk_cell HV.out.hc 4).trans rfl; have hy5 : wn.cell? ⟨bc, 5, none⟩ = some (.int .i64 c5) := (blk_cell HV.out.hc 5).trans rfl; have hy9 : wn.cell? ⟨bm, 9, none⟩ = some (.slice (some ⟨bl, 0, none⟩) n n) := (blk_cell HV.out.hm 9).trans rfl) | ((with_reducible refine gate_dst (N := 72) rfl ?_); refine goesLC_ (some 72) rfl rfl Try.func31 (by kernel_rfl) rfl #[] #[.pointer (some ⟨g, 0, none⟩)] #[.pointer (some ⟨bl, i * 9 + 3, none⟩), .int .i64 (wrap64 (c0 * c0))] #[.pointer (some ⟨bl, i * 9 + 3, none⟩), .int .i64 (wrap64 (c0 * c0)), .pointer (some ⟨g, 0, none⟩)] rfl rfl rfl (by (try simp only [List.map_toArray, List.map_cons, List.map_nil]); rfl) ?_; (try simp only [i64_w]); refine (ckpt_Size_1.calls B g bm bc bl _ _ lay w0 _ _ _ _ (c0 * c0) (ww _) HV.out).mono ?_; rintro e wn ⟨⟨u, rfl⟩, hv⟩; refine ⟨_, rfl, ?_⟩; have HV2 := Aside0.mk hv; clear hv; clear HV; have HV := HV2; clear HV2; clear hy0 hy3 hy4 hy5 hy9; have hy0 : wn.cell? ⟨bc, 0, none⟩ = some (.int .i64 c0) := (blk_cell HV.out.hc 0).trans rfl; have hy3 : wn.cell? ⟨bc, 3, none⟩ = some (.int .i64 c3) := (blk_cell HV.out.hc 3).trans rfl; have hy4 : wn.cell? ⟨bc, 4, none⟩ = some (.int .i64 c4) := (blk_cell HV.out.hc 4).trans rfl; have hy5 : wn.cell? ⟨bc, 5, none⟩ = some (.int .i64 c5) := (blk_cell HV.out.hc 5).trans rfl; have hy9 : wn.cell? ⟨bm, 9, none⟩ = some (.slice (some ⟨bl, 0, none⟩) n n) := (blk_cell HV.out.hm 9).trans rfl) | ((with_reducible refine gate_dst (N := 78) rfl ?_); refine goesLC_ (some 78) rfl rfl Try.func31 (by kernel_rfl) rfl #[] #[.pointer (some ⟨g, 0, none⟩)] #[.pointer (some ⟨bl, i * 9 + 4, none⟩), .int .i64 (wrap64 (c0 * c0))] #[.pointer (some ⟨bl, i * 9 + 4, none⟩), .int .i64 (wrap64 (c0 * c0)), .pointer (some ⟨g, 0, none⟩)] rfl rfl rfl (by (try simp only [List.map_toArray, List.map_cons, List.map_nil]); rfl) ?_; (try simp only [i64_w]); refine (ckpt_Size_1.calls B g bm bc bl _ _ lay w0 _ _ _ _ (c0 * c0) (ww _) HV.out).mono ?_; rintro e wn ⟨⟨u, rfl⟩, hv⟩; refine ⟨_, rfl, ?_⟩; have HV2 := Aside0.mk hv; clear hv; clear HV; have HV := HV2; clear HV2; clear hy0 hy3 hy4 hy5 hy9; have hy0 : wn.cell? ⟨bc, 0, none⟩ = some (.int .i64 c0) := (blk_cell HV.out.hc 0).trans rfl; have hy3 : wn.cell? ⟨bc, 3, none⟩ = some (.int .i64 c3) := (blk_cell HV.out.hc 3).trans rfl; have hy4 : wn.cell? ⟨bc, 4, none⟩ = some (.int .i64 c4) := (blk_cell HV.out.hc 4).trans rfl; have hy5 : wn.cell? ⟨bc, 5, none⟩ = some (.int .i64 c5) := (blk_cell HV.out.hc 5).trans rfl; have hy9 : wn.cell? ⟨bm, 9, none⟩ = some (.slice (some ⟨bl, 0, none⟩) n n) := (blk_cell HV.out.hm 9).trans rfl))
      go_still_tail 6, (by kernel_rfl)
      change wpList _ _ _ _ _ wn.drew
      go_wp2_with (first | ((with_reducible refine gate_dst (N := 85) rfl ?_); refine goesLC_ (some 85) rfl rfl Try.func31 (by kernel_rfl) rfl #[] #[.pointer (some ⟨g, 0, none⟩)] #[.pointer (some ⟨bl, i * 9 + 5, none⟩), .int .i64 (c0)] #[.pointer (some ⟨bl, i * 9 + 5, none⟩), .int .i64 (c0), .pointer (some ⟨g, 0, none⟩)] rfl rfl rfl (by (try simp only [List.map_toArray, List.map_cons, List.map_nil]); rfl) ?_; (try simp only [i64_w]); refine (ckpt_Size_1.calls B g bm bc bl _ _ lay w0 _ _ _ _ (c0) (rfl) HV.out.drew).mono ?_; rintro e wn ⟨⟨u, rfl⟩, hv⟩; refine ⟨_, rfl, ?_⟩; have HV2 := Aside0.mk hv; clear hv; clear HV; have HV := HV2; clear HV2; clear hy0 hy3 hy4 hy5 hy9; have hy0 : wn.cell? ⟨bc, 0, none⟩ = some (.int .i64 c0) := (blk_cell HV.out.hc 0).trans rfl; have hy3 : wn.cell? ⟨bc, 3, none⟩ = some (.int .i64 c3) := (blk_cell HV.out.hc 3).trans rfl; have hy4 : wn.cell? ⟨bc, 4, none⟩ = some (.int .i64 c4) := (blk_cell HV.out.hc 4).trans rfl; have hy5 : wn.cell? ⟨bc, 5, none⟩ = some (.int .i64 c5) := (blk_cell HV.out.hc 5).trans rfl; have hy9 : wn.cell? ⟨bm, 9, none⟩ = some (.slice (some ⟨bl, 0, none⟩) n n) := (blk_cell HV.out.hm 9).trans rfl))
      go_still_tail 9, (by kernel_rfl)
      change wpList _ _ _ _ _ wn.drew
      go_wp2_with (first | ((with_reducible refine gate_dst (N := 95) rfl ?_); refine goesLC_ (some 95) rfl rfl Try.func31 (by kernel_rfl) rfl #[] #[.pointer (some ⟨g, 0, none⟩)] #[.pointer (some ⟨bl, i * 9 + 6, none⟩), .int .i64 (IntKind.i64.wrap (c5 * c0))] #[.pointer (some ⟨bl, i * 9 + 6, none⟩), .int .i64 (IntKind.i64.wrap (c5 * c0)), .pointer (some ⟨g, 0, none⟩)] rfl rfl rfl (by (try simp only [List.map_toArray, List.map_cons, List.map_nil]); rfl) ?_; (try simp only [i64_w]); refine (ckpt_Size_1.calls B g bm bc bl _ _ lay w0 _ _ _ _ (c5 * c0) (ww _) HV.out.drew).mono ?_; rintro e wn ⟨⟨u, rfl⟩, hv⟩; refine ⟨_, rfl, ?_⟩; have HV2 := Aside0.mk hv; clear hv; clear HV; have HV := HV2; clear HV2; clear hy0 hy3 hy4 hy5 hy9; have hy0 : wn.cell? ⟨bc, 0, none⟩ = some (.int .i64 c0) := (blk_cell HV.out.hc 0).trans rfl; have hy3 : wn.cell? ⟨bc, 3, none⟩ = some (.int .i64 c3) := (blk_cell HV.out.hc 3).trans rfl; have hy4 : wn.cell? ⟨bc, 4, none⟩ = some (.int .i64 c4) := (blk_cell HV.out.hc 4).trans rfl; have hy5 : wn.cell? ⟨bc, 5, none⟩ = some (.int .i64 c5) := (blk_cell HV.out.hc 5).trans rfl; have hy9 : wn.cell? ⟨bm, 9, none⟩ = some (.slice (some ⟨bl, 0, none⟩) n n) := (blk_cell HV.out.hm 9).trans rfl; have hy7 : wn.cell? ⟨bl, i * 9 + 7, none⟩ = some (.slice (some ⟨u7, 0, none⟩) k k) := (blk_cell HV.out.hl (i * 9 + 7)).trans hlu; have hy8 : wn.cell? ⟨bl, i * 9 + 8, none⟩ = some (.slice (some ⟨u8, 0, none⟩) k k) := (blk_cell HV.out.hl (i * 9 + 8)).trans hld))
      obtain ⟨T2, hT2⟩ : ∃ T2 : Int, T2 = (T + c3 * c0 + (i : Int) * L + c0 + c0 * c0 + c0 * c0 + c0 * c0 + c0 * c0 + c0 + c5 * c0) := ⟨_, rfl⟩
      have HV2 : Aside0 (Vis B g bm bc bl (.slice (some ⟨bl, 0, none⟩) n n) #[.int .i64 c0, .int .i64 c1, .int .i64 c2, .int .i64 c3, .int .i64 c4, .int .i64 c5, .int .i64 c6, .int .i64 c7] lay w0 T2 wn) := by rw [hT2]; exact HV
      clear HV
      have HV := HV2
      clear HV2
      have KT := Aside0.mk hT2
      clear hT2
      go_loopg [101] k (fun kq v101 wr2 => ∃ j : Nat, v101 = .int .i64 (j : Int) ∧ j + kq = k ∧ Aside0 (Vis B g bm bc bl (.slice (some ⟨bl, 0, none⟩) n n) #[.int .i64 c0, .int .i64 c1, .int .i64 c2, .int .i64 c3, .int .i64 c4, .int .i64 c5, .int .i64 c6, .int .i64 c7] lay w0 (T2 + (j : Int) * (2 * (c4 * c0))) wr2))
      case atStart =>
        refine ⟨0, rfl, by omega, ⟨?_⟩⟩
        have h := HV.out
        simpa using h
      case round =>
        obtain ⟨j, rfl, hjk, HV0⟩ := hrel
        clear HV
        have HV := HV0
        clear HV0
        clear hy0 hy3 hy4 hy5 hy9 hy7 hy8
        have hy7 : wr.cell? ⟨bl, i * 9 + 7, none⟩ = some (.slice (some ⟨u7, 0, none⟩) k k) := (blk_cell HV.out.hl (i * 9 + 7)).trans hlu
        have hy8 : wr.cell? ⟨bl, i * 9 + 8, none⟩ = some (.slice (some ⟨u8, 0, none⟩) k k) := (blk_cell HV.out.hl (i * 9 + 8)).trans hld
        by_cases cj : j < k
        · have cb2 : decide ((j : Int) < (k : Int)) = true := decide_eq_true (by omega)
          have cp2 := eq_true (show 0 ≤ (j : Int) by omega)
          have cq2 := eq_true (show (j : Int) < (k : Int) by omega)
          go_wp2_with (first | ((with_reducible refine gate_dst (N := 112) rfl ?_); refine goesLC_ (some 112) rfl rfl Try.func31 (by kernel_rfl) rfl #[] #[.pointer (some ⟨g, 0, none⟩)] #[.pointer (some ⟨u7, j, none⟩), .int .i64 (wrap64 (c4 * c0))] #[.pointer (some ⟨u7, j, none⟩), .int .i64 (wrap64 (c4 * c0)), .pointer (some ⟨g, 0, none⟩)] rfl rfl rfl (by (try simp only [List.map_toArray, List.map_cons, List.map_nil]); rfl) ?_; (try simp only [i64_w]); refine (ckpt_Size_1.calls B g bm bc bl _ _ lay w0 _ _ _ _ (c4 * c0) (ww _) HV.out).mono ?_; rintro e wn ⟨⟨u, rfl⟩, hv⟩; refine ⟨_, rfl, ?_⟩; have HV2 := Aside0.mk hv; clear hv; clear HV; have HV := HV2; clear HV2; clear hy7 hy8; have hy7 : wn.cell? ⟨bl, i * 9 + 7, none⟩ = some (.slice (some ⟨u7, 0, none⟩) k k) := (blk_cell HV.out.hl (i * 9 + 7)).trans hlu; have hy8 : wn.cell? ⟨bl, i * 9 + 8, none⟩ = some (.slice (some ⟨u8, 0, none⟩) k k) := (blk_cell HV.out.hl (i * 9 + 8)).trans hld) | ((with_reducible refine gate_dst (N := 121) rfl ?_); refine goesLC_ (some 121) rfl rfl Try.func31 (by kernel_rfl) rfl #[] #[.pointer (some ⟨g, 0, none⟩)] #[.pointer (some ⟨u8, j, none⟩), .int .i64 (wrap64 (c4 * c0))] #[.pointer (some ⟨u8, j, none⟩), .int .i64 (wrap64 (c4 * c0)), .pointer (some ⟨g, 0, none⟩)] rfl rfl rfl (by (try simp only [List.map_toArray, List.map_cons, List.map_nil]); rfl) ?_; (try simp only [i64_w]); refine (ckpt_Size_1.calls B g bm bc bl _ _ lay w0 _ _ _ _ (c4 * c0) (ww _) HV.out).mono ?_; rintro e wn ⟨⟨u, rfl⟩, hv⟩; refine ⟨_, rfl, ?_⟩; have HV2 := Aside0.mk hv; clear hv; clear HV; have HV := HV2; clear HV2; clear hy7 hy8; have hy7 : wn.cell? ⟨bl, i * 9 + 7, none⟩ = some (.slice (some ⟨u7, 0, none⟩) k k) := (blk_cell HV.out.hl (i * 9 + 7)).trans hlu; have hy8 : wn.cell? ⟨bl, i * 9 + 8, none⟩ = some (.slice (some ⟨u8, 0, none⟩) k k) := (blk_cell HV.out.hl (i * 9 + 8)).trans hld))
          go_roundg (k - j - 1)
          case measure => omega
          case rel =>
            refine ⟨j + 1, by simp, by omega, ⟨?_⟩⟩
            have e1 : T2 + ((j + 1 : Nat) : Int) * (2 * (c4 * c0)) = T2 + (j : Int) * (2 * (c4 * c0)) + c4 * c0 + c4 * c0 := by
              generalize c4 * c0 = z
              rw [Int.natCast_add, Int.add_mul]
              omega
            rw [e1]
            exact HV.out
        · have cb2 : decide ((j : Int) < (k : Int)) = false := decide_eq_false (by omega)
          go_wp2
          obtain rfl : j = k := by omega
          go_roundg (n - i - 1)
          case measure => omega
          case rel =>
            refine ⟨i + 1, by simp, by omega, ⟨?_⟩⟩
            have e1 : T + c3 * c0 + ((i + 1 : Nat) : Int) * L = T2 + (j : Int) * (2 * (c4 * c0)) := by
              have k1 := KL.out
              have k2 := KT.out
              rw [Int.natCast_add, Int.add_mul, k2]
              clear k2
              generalize (i : Int) * L = y
              rw [k1]
              generalize (j : Int) * (2 * (c4 * c0)) = s
              generalize c0 * c0 = p
              generalize c5 * c0 = q
              generalize c3 * c0 = r
              omega
            rw [e1]
            exact HV.out
    · have cb : decide ((i : Int) < (n : Int)) = false := decide_eq_false (by omega)
      go_wp2
      go_still_tail 6, (by kernel_rfl)
      change wpList _ _ _ _ _ wr.drew
      go_wp2_with (first | ((with_reducible refine gate_dst (N := 130) rfl ?_); refine goesLC_ (some 130) rfl rfl Try.func31 (by kernel_rfl) rfl #[] #[.pointer (some ⟨g, 0, none⟩)] #[.pointer (some ⟨bm, 10, none⟩), .int .i64 (c0)] #[.pointer (some ⟨bm, 10, none⟩), .int .i64 (c0), .pointer (some ⟨g, 0, none⟩)] rfl rfl rfl (by (try simp only [List.map_toArray, List.map_cons, List.map_nil]); rfl) ?_; (try simp only [i64_w]); refine (ckpt_Size_1.calls B g bm bc bl _ _ lay w0 _ _ _ _ (c0) (rfl) HV.out.drew).mono ?_; rintro e wn ⟨⟨u, rfl⟩, hv⟩; refine ⟨_, rfl, ?_⟩; have HV2 := Aside0.mk hv; clear hv; clear HV; have HV := HV2; clear HV2; clear hy0 hy3 hy4 hy5 hy9; have hy0 : wn.cell? ⟨bc, 0, none⟩ = some (.int .i64 c0) := (blk_cell HV.out.hc 0).trans rfl; have hy3 : wn.cell? ⟨bc, 3, none⟩ = some (.int .i64 c3) := (blk_cell HV.out.hc 3).trans rfl; have hy4 : wn.cell? ⟨bc, 4, none⟩ = some (.int .i64 c4) := (blk_cell HV.out.hc 4).trans rfl; have hy5 : wn.cell? ⟨bc, 5, none⟩ = some (.int .i64 c5) := (blk_cell HV.out.hc 5).trans rfl; have hy9 : wn.cell? ⟨bm, 9, none⟩ = some (.slice (some ⟨bl, 0, none⟩) n n) := (blk_cell HV.out.hm 9).trans rfl))
      go_still_tail 9, (by kernel_rfl)
      change wpList _ _ _ _ _ wn.drew
      go_wp2_with (first | ((with_reducible refine gate_dst (N := 140) rfl ?_); refine goesLC_ (some 140) rfl rfl Try.func31 (by kernel_rfl) rfl #[] #[.pointer (some ⟨g, 0, none⟩)] #[.pointer (some ⟨bm, 11, none⟩), .int .i64 (IntKind.i64.wrap (c3 * c0))] #[.pointer (some ⟨bm, 11, none⟩), .int .i64 (IntKind.i64.wrap (c3 * c0)), .pointer (some ⟨g, 0, none⟩)] rfl rfl rfl (by (try simp only [List.map_toArray, List.map_cons, List.map_nil]); rfl) ?_; (try simp only [i64_w]); refine (ckpt_Size_1.calls B g bm bc bl _ _ lay w0 _ _ _ _ (c3 * c0) (ww _) HV.out.drew).mono ?_; rintro e wn ⟨⟨u, rfl⟩, hv⟩; refine ⟨_, rfl, ?_⟩; have HV2 := Aside0.mk hv; clear hv; clear HV; have HV := HV2; clear HV2; clear hy0 hy3 hy4 hy5 hy9; have hy0 : wn.cell? ⟨bc, 0, none⟩ = some (.int .i64 c0) := (blk_cell HV.out.hc 0).trans rfl; have hy3 : wn.cell? ⟨bc, 3, none⟩ = some (.int .i64 c3) := (blk_cell HV.out.hc 3).trans rfl; have hy4 : wn.cell? ⟨bc, 4, none⟩ = some (.int .i64 c4) := (blk_cell HV.out.hc 4).trans rfl; have hy5 : wn.cell? ⟨bc, 5, none⟩ = some (.int .i64 c5) := (blk_cell HV.out.hc 5).trans rfl; have hy9 : wn.cell? ⟨bm, 9, none⟩ = some (.slice (some ⟨bl, 0, none⟩) n n) := (blk_cell HV.out.hm 9).trans rfl))
      go_end0
      obtain rfl : i = n := by omega
      have h1 := HV.out.hg
      rw [KL.out] at h1
      exact ⟨⟨_, rfl⟩, h1, HV.out.hb⟩
set_option maxHeartbeats 8000000 in
set_option maxRecDepth 100000 in
theorem ckpt_empty.calls (n k : Nat) (c0 c1 c3 c4 c5 c6 c7 : Int) (w : World) (hn2 : n ≤ 2) (hk4 : k ≤ 4) (hk : mx c5 1 = (k : Int)) :
    Calls Try.prog 29 #[.agg #[.int .i64 c0, .int .i64 c1, .int .i64 (n : Int), .int .i64 c3, .int .i64 c4, .int .i64 c5, .int .i64 c6, .int .i64 c7]] w fun e w' => ∃ (bl : Nat) (lay : Array Value), e = .returned (.agg #[.int .i64 c0, .int .i64 c1, .int .i64 (n : Int), .int .i64 c3, .int .i64 c4, .int .i64 c5, .int .i64 c6, .int .i64 c7, .slice none 0 0, .slice (some ⟨bl, 0, none⟩) n n, .slice none 0 0, .slice none 0 0]) ∧ w'.heap[bl]? = some (.cells lay 59 (0, 0)) ∧ w.heap.size ≤ bl ∧ (∀ i, i < n → ∃ u d, lay[i * 9 + 7]? = some (.slice (some ⟨u, 0, none⟩) k k) ∧ lay[i * 9 + 8]? = some (.slice (some ⟨d, 0, none⟩) k k)) ∧ Below w.heap.size w w' := by
  have hu23 := Try.underlying23
  have hu29 := Try.underlying29
  have hu59 := Try.underlying59
  have hu27 := Try.underlying27
  have hu57 := Try.underlying57
  have hk' : (if c5 < 1 then (1 : Int) else c5) = (k : Int) := hk
  have hmk : ∀ W : World, (Instr.makeSlice 27 (.int .i64 (n : Int)) (.int .i64 (n : Int))).run Try.prog W = .ok (.slice (some ⟨W.heap.size, 0, none⟩) n n) (W.alloc (.cells (madeCells #[.slice none 0 0, .slice none 0 0, .slice none 0 0, .slice none 0 0, .slice none 0 0, .slice none 0 0, .slice none 0 0, .slice none 0 0, .slice none 0 0] (n * 9)) 59)) := by
    intro W
    obtain ⟨i, hi, hzz⟩ := Option.map_eq_some_iff.1 info59
    simp only [Prod.mk.injEq] at hzz
    obtain ⟨hz, hs, hb⟩ := hzz
    have h := run_make (P := Try.prog) W 27 59 i _ Try.underlying27 hi hz .i64 .i64 (n : Int) (n : Int) (by omega) (Int.le_refl _) (by rw [hb]; omega) (by omega)
    simp only [Int.toNat_natCast, hs] at h
    exact h
  go_enter Try.func29, Try.ntmps29
  go_wp2
  have q0 := blk_alloc (blk_new w (.cells #[.int .i64 c0, .int .i64 c1, .int .i64 (n : Int), .int .i64 c3, .int .i64 c4, .int .i64 c5, .int .i64 c6, .int .i64 c7] 23)) (.cells #[.int .i64 0, .int .i64 0, .int .i64 0, .int .i64 0, .int .i64 0, .int .i64 0, .int .i64 0, .int .i64 0, .slice none 0 0, .slice none 0 0, .slice none 0 0, .slice none 0 0] 29)
  have q1 := blk_new (w.alloc (.cells #[.int .i64 c0, .int .i64 c1, .int .i64 (n : Int), .int .i64 c3, .int .i64 c4, .int .i64 c5, .int .i64 c6, .int .i64 c7] 23)) (.cells #[.int .i64 0, .int .i64 0, .int .i64 0, .int .i64 0, .int .i64 0, .int .i64 0, .int .i64 0, .int .i64 0, .slice none 0 0, .slice none 0 0, .slice none 0 0, .slice none 0 0] 29)
  have q2 := below_alloc (below_alloc (Below.refl w.heap.size w) (.cells #[.int .i64 c0, .int .i64 c1, .int .i64 (n : Int), .int .i64 c3, .int .i64 c4, .int .i64 c5, .int .i64 c6, .int .i64 c7] 23)) (.cells #[.int .i64 0, .int .i64 0, .int .i64 0, .int .i64 0, .int .i64 0, .int .i64 0, .int .i64 0, .int .i64 0, .slice none 0 0, .slice none 0 0, .slice none 0 0, .slice none 0 0] 29)
  simp only [World.size_alloc] at q1
  generalize (w.alloc (.cells #[.int .i64 c0, .int .i64 c1, .int .i64 (n : Int), .int .i64 c3, .int .i64 c4, .int .i64 c5, .int .i64 c6, .int .i64 c7] 23)).alloc (.cells #[.int .i64 0, .int .i64 0, .int .i64 0, .int .i64 0, .int .i64 0, .int .i64 0, .int .i64 0, .int .i64 0, .slice none 0 0, .slice none 0 0, .slice none 0 0, .slice none 0 0] 29) = w1 at q0 q1 q2 ⊢
  have Q0 := Aside0.mk q0
  have Q1 := Aside0.mk q1
  have Q2 := Aside0.mk q2
  clear q0 q1 q2
  refine start_ (n := 7) (S := (fun w' => w'.heap[w.heap.size]? = some (.cells #[.int .i64 c0, .int .i64 c1, .int .i64 (n : Int), .int .i64 c3, .int .i64 c4, .int .i64 c5, .int .i64 c6, .int .i64 c7] 23 (0, 0)) ∧ w'.heap[w.heap.size + 1]? = some (.cells #[.int .i64 0, .int .i64 0, .int .i64 0, .int .i64 0, .int .i64 0, .int .i64 0, .int .i64 0, .int .i64 0, .slice none 0 0, .slice none 0 0, .slice none 0 0, .slice none 0 0] 29 (0, 0)) ∧ Below w.heap.size w w')) (ds := []) #[false, false, false, false, false, false, false] (by kernel_rfl) rfl rfl ⟨Q0.out, Q1.out, below_drew1 Q2.out⟩ (fun hHeld => ?_)
  clear Q0 Q1 Q2
  generalize w1.drew = w2 at hHeld ⊢
  refine pure_ (i := 1) (N := some 7) (v := ?_) (a' := ?_) #[false, true, false, false, false, false, false] rfl rfl (by kernel_rfl) (fun _ _ _ h => h) (Or.inl ⟨by rfl, ?_⟩) ?_ ?_
  rotate_left
  · intro w'
    go_simp
    with_reducible rfl
  rotate_left
  · simp only [Act.put, List.setIfInBounds_toArray, List.set_cons_zero, List.set_cons_succ, i64_w, i32_w]
    rfl
  refine take_ (i := 0) (N := some 6) (v := ?_) (a' := ?_) #[true, true, false, false, false, false, false] rfl rfl (by kernel_rfl) (fun _ _ _ h => h) (Or.inl ⟨by rfl, ?_⟩) hHeld ?_ ?_
  rotate_left
  · intro w' s0
    obtain ⟨s0, _, _⟩ := s0
    have hx0 : w'.cell? ⟨w.heap.size, 0, none⟩ = some (.int .i64 c0) := (blk_cell s0 0).trans rfl; have hx1 : w'.cell? ⟨w.heap.size, 1, none⟩ = some (.int .i64 c1) := (blk_cell s0 1).trans rfl; have hx2 : w'.cell? ⟨w.heap.size, 2, none⟩ = some (.int .i64 (n : Int)) := (blk_cell s0 2).trans rfl; have hx3 : w'.cell? ⟨w.heap.size, 3, none⟩ = some (.int .i64 c3) := (blk_cell s0 3).trans rfl; have hx4 : w'.cell? ⟨w.heap.size, 4, none⟩ = some (.int .i64 c4) := (blk_cell s0 4).trans rfl; have hx5 : w'.cell? ⟨w.heap.size, 5, none⟩ = some (.int .i64 c5) := (blk_cell s0 5).trans rfl; have hx6 : w'.cell? ⟨w.heap.size, 6, none⟩ = some (.int .i64 c6) := (blk_cell s0 6).trans rfl; have hx7 : w'.cell? ⟨w.heap.size, 7, none⟩ = some (.int .i64 c7) := (blk_cell s0 7).trans rfl
    go_simp
    with_reducible rfl
  rotate_left
  · simp only [Act.put, List.setIfInBounds_toArray, List.set_cons_zero, List.set_cons_succ, i64_w, i32_w]
    rfl
  refine take_ (i := 2) (N := some 8) (v := ?_) (a' := ?_) #[true, true, true, false, false, false, false] rfl rfl (by kernel_rfl) (fun _ _ _ h => h) (Or.inl ⟨by rfl, ?_⟩) hHeld ?_ ?_
  rotate_left
  · intro w' s0
    obtain ⟨s0, _, _⟩ := s0
    have hx0 : w'.cell? ⟨w.heap.size, 0, none⟩ = some (.int .i64 c0) := (blk_cell s0 0).trans rfl; have hx1 : w'.cell? ⟨w.heap.size, 1, none⟩ = some (.int .i64 c1) := (blk_cell s0 1).trans rfl; have hx2 : w'.cell? ⟨w.heap.size, 2, none⟩ = some (.int .i64 (n : Int)) := (blk_cell s0 2).trans rfl; have hx3 : w'.cell? ⟨w.heap.size, 3, none⟩ = some (.int .i64 c3) := (blk_cell s0 3).trans rfl; have hx4 : w'.cell? ⟨w.heap.size, 4, none⟩ = some (.int .i64 c4) := (blk_cell s0 4).trans rfl; have hx5 : w'.cell? ⟨w.heap.size, 5, none⟩ = some (.int .i64 c5) := (blk_cell s0 5).trans rfl; have hx6 : w'.cell? ⟨w.heap.size, 6, none⟩ = some (.int .i64 c6) := (blk_cell s0 6).trans rfl; have hx7 : w'.cell? ⟨w.heap.size, 7, none⟩ = some (.int .i64 c7) := (blk_cell s0 7).trans rfl
    go_simp
    with_reducible rfl
  rotate_left
  · simp only [Act.put, List.setIfInBounds_toArray, List.set_cons_zero, List.set_cons_succ, i64_w, i32_w]
    rfl
  refine join_ (σ := Nat × Nat) 1 #[true, true, true, true, true, true, false] (fun s_ => [(9, .slice (some ⟨s_.1, 0, none⟩) n n), (10, .agg #[.int .i64 c0, .int .i64 c1, .int .i64 (n : Int), .int .i64 c3, .int .i64 c4, .int .i64 c5, .int .i64 c6, .int .i64 c7, .slice none 0 0, .slice (some ⟨s_.1, 0, none⟩) n n, .slice none 0 0, .slice none 0 0]), (3, .pointer (some ⟨s_.2, 0, none⟩))]) (fun s_ w' => w'.heap[w.heap.size]? = some (.cells #[.int .i64 c0, .int .i64 c1, .int .i64 (n : Int), .int .i64 c3, .int .i64 c4, .int .i64 c5, .int .i64 c6, .int .i64 c7] 23 (0, 0)) ∧ w'.heap[w.heap.size + 1]? = some (.cells #[.int .i64 0, .int .i64 0, .int .i64 0, .int .i64 0, .int .i64 0, .int .i64 0, .int .i64 0, .int .i64 0, .slice none 0 0, .slice none 0 0, .slice none 0 0, .slice none 0 0] 29 (0, 0)) ∧ Below w.heap.size w w' ∧ w'.heap[s_.1]? = some (.cells (madeCells #[.slice none 0 0, .slice none 0 0, .slice none 0 0, .slice none 0 0, .slice none 0 0, .slice none 0 0, .slice none 0 0, .slice none 0 0, .slice none 0 0] (n * 9)) 59 (0, 0)) ∧ w'.heap[s_.2]? = some (.cells #[.int .i64 0, .int .i64 0, .int .i64 0, .int .i64 0, .int .i64 0, .int .i64 0, .int .i64 0, .int .i64 0, .slice none 0 0, .slice none 0 0, .slice none 0 0, .slice none 0 0] 29 (0, 0)) ∧ w.heap.size ≤ s_.1 ∧ w.heap.size + 1 < s_.2) ?_ ?_
  rotate_left
  · intro hCont
    obtain ⟨h1, h2, h3⟩ := hHeld
    refine two_ (i := 3) (j := 5) (Ni := some 9) (Nj := some 3) #[true, true, true, true, false, false, false] #[true, true, true, false, false, true, false] rfl rfl rfl rfl (by kernel_rfl) (by decide) (by decide) (fun K hK => ?_) (fun K hK => ?_)
    · refine value_ (v := .slice (some ⟨w2.heap.size, 0, none⟩) n n) (w1 := w2.alloc (.cells (madeCells #[.slice none 0 0, .slice none 0 0, .slice none 0 0, .slice none 0 0, .slice none 0 0, .slice none 0 0, .slice none 0 0, .slice none 0 0, .slice none 0 0] (n * 9)) 59)) (by rfl) rfl (by simp [execOp, Act.eval, hmk]) ?_
      have g1 := blk_alloc h1 (.cells (madeCells #[.slice none 0 0, .slice none 0 0, .slice none 0 0, .slice none 0 0, .slice none 0 0, .slice none 0 0, .slice none 0 0, .slice none 0 0, .slice none 0 0] (n * 9)) 59)
      have g2 := blk_alloc h2 (.cells (madeCells #[.slice none 0 0, .slice none 0 0, .slice none 0 0, .slice none 0 0, .slice none 0 0, .slice none 0 0, .slice none 0 0, .slice none 0 0, .slice none 0 0] (n * 9)) 59)
      have g3 := below_alloc h3 (.cells (madeCells #[.slice none 0 0, .slice none 0 0, .slice none 0 0, .slice none 0 0, .slice none 0 0, .slice none 0 0, .slice none 0 0, .slice none 0 0, .slice none 0 0] (n * 9)) 59)
      have g4 := blk_new w2 (.cells (madeCells #[.slice none 0 0, .slice none 0 0, .slice none 0 0, .slice none 0 0, .slice none 0 0, .slice none 0 0, .slice none 0 0, .slice none 0 0, .slice none 0 0] (n * 9)) 59)
      have g5 : w.heap.size ≤ w2.heap.size := h3.size
      refine hK.out _ _ ⟨g1, g2, g3⟩ (fun _ => ?_)
      clear hK K
      refine norm_ (a' := ?_) ?_ ?_
      rotate_left
      · show Act.put _ (some 9) _ = _
        simp only [Act.put, List.setIfInBounds_toArray, List.set_cons_zero, List.set_cons_succ, i64_w, i32_w]
        rfl
      generalize w2.alloc (.cells (madeCells #[.slice none 0 0, .slice none 0 0, .slice none 0 0, .slice none 0 0, .slice none 0 0, .slice none 0 0, .slice none 0 0, .slice none 0 0, .slice none 0 0] (n * 9)) 59) = w3 at *
      generalize w2.heap.size = bl at *
      refine pure_ (i := 4) (N := some 10) (v := ?_) (a' := ?_) #[true, true, true, true, true, false, false] rfl rfl (by kernel_rfl) (fun _ _ _ h => h) (Or.inl ⟨by rfl, ?_⟩) ?_ ?_
      rotate_left
      · intro w'
        go_simp
        with_reducible rfl
      rotate_left
      · simp only [Act.put, List.setIfInBounds_toArray, List.set_cons_zero, List.set_cons_succ, i64_w, i32_w]
        rfl
      refine one_ (i := 5) (N := some 3) #[true, true, true, true, true, true, false] rfl rfl (by kernel_rfl) (by decide) (fun K hK => ?_)
      refine value_ (v := .pointer (some ⟨w3.heap.size, 0, none⟩)) (w1 := w3.alloc (.cells #[.int .i64 0, .int .i64 0, .int .i64 0, .int .i64 0, .int .i64 0, .int .i64 0, .int .i64 0, .int .i64 0, .slice none 0 0, .slice none 0 0, .slice none 0 0, .slice none 0 0] 29)) (by rfl) rfl (by first | (go_simp; done) | (go_simp; rfl)) ?_
      refine hK.out _ _ ⟨blk_alloc g1 _, blk_alloc g2 _, below_alloc g3 _⟩ (fun _ => ?_)
      clear hK K
      have hC := hCont (bl, w3.heap.size) _ ⟨blk_alloc g1 _, blk_alloc g2 _, below_alloc g3 _, blk_alloc g4 _, blk_new w3 _, g5, blk_lt g2⟩
      simp only [putAll, Act.put, List.setIfInBounds_toArray, List.set_cons_zero, List.set_cons_succ] at hC
      exact hC
    · refine value_ (v := .pointer (some ⟨w2.heap.size, 0, none⟩)) (w1 := w2.alloc (.cells #[.int .i64 0, .int .i64 0, .int .i64 0, .int .i64 0, .int .i64 0, .int .i64 0, .int .i64 0, .int .i64 0, .slice none 0 0, .slice none 0 0, .slice none 0 0, .slice none 0 0] 29)) (by rfl) rfl (by first | (go_simp; done) | (go_simp; rfl)) ?_
      have g1 := blk_alloc h1 (.cells #[.int .i64 0, .int .i64 0, .int .i64 0, .int .i64 0, .int .i64 0, .int .i64 0, .int .i64 0, .int .i64 0, .slice none 0 0, .slice none 0 0, .slice none 0 0, .slice none 0 0] 29)
      have g2 := blk_alloc h2 (.cells #[.int .i64 0, .int .i64 0, .int .i64 0, .int .i64 0, .int .i64 0, .int .i64 0, .int .i64 0, .int .i64 0, .slice none 0 0, .slice none 0 0, .slice none 0 0, .slice none 0 0] 29)
      have g3 := below_alloc h3 (.cells #[.int .i64 0, .int .i64 0, .int .i64 0, .int .i64 0, .int .i64 0, .int .i64 0, .int .i64 0, .int .i64 0, .slice none 0 0, .slice none 0 0, .slice none 0 0, .slice none 0 0] 29)
      have g4 := blk_new w2 (.cells #[.int .i64 0, .int .i64 0, .int .i64 0, .int .i64 0, .int .i64 0, .int .i64 0, .int .i64 0, .int .i64 0, .slice none 0 0, .slice none 0 0, .slice none 0 0, .slice none 0 0] 29)
      have g5 : w.heap.size + 1 < w2.heap.size := blk_lt h2
      refine hK.out _ _ ⟨g1, g2, g3⟩ (fun _ => ?_)
      clear hK K
      refine norm_ (a' := ?_) ?_ ?_
      rotate_left
      · show Act.put _ (some 3) _ = _
        simp only [Act.put, List.setIfInBounds_toArray, List.set_cons_zero, List.set_cons_succ, i64_w, i32_w]
        rfl
      generalize w2.alloc (.cells #[.int .i64 0, .int .i64 0, .int .i64 0, .int .i64 0, .int .i64 0, .int .i64 0, .int .i64 0, .int .i64 0, .slice none 0 0, .slice none 0 0, .slice none 0 0, .slice none 0 0] 29) = w3 at *
      generalize w2.heap.size = bm at *
      refine one_ (i := 3) (N := some 9) #[true, true, true, true, false, true, false] rfl rfl (by kernel_rfl) (by decide) (fun K hK => ?_)
      refine value_ (v := .slice (some ⟨w3.heap.size, 0, none⟩) n n) (w1 := w3.alloc (.cells (madeCells #[.slice none 0 0, .slice none 0 0, .slice none 0 0, .slice none 0 0, .slice none 0 0, .slice none 0 0, .slice none 0 0, .slice none 0 0, .slice none 0 0] (n * 9)) 59)) (by rfl) rfl (by simp [execOp, Act.eval, hmk]) ?_
      have k1 := blk_alloc g1 (.cells (madeCells #[.slice none 0 0, .slice none 0 0, .slice none 0 0, .slice none 0 0, .slice none 0 0, .slice none 0 0, .slice none 0 0, .slice none 0 0, .slice none 0 0] (n * 9)) 59)
      have k2 := blk_alloc g2 (.cells (madeCells #[.slice none 0 0, .slice none 0 0, .slice none 0 0, .slice none 0 0, .slice none 0 0, .slice none 0 0, .slice none 0 0, .slice none 0 0, .slice none 0 0] (n * 9)) 59)
      have k3 := below_alloc g3 (.cells (madeCells #[.slice none 0 0, .slice none 0 0, .slice none 0 0, .slice none 0 0, .slice none 0 0, .slice none 0 0, .slice none 0 0, .slice none 0 0, .slice none 0 0] (n * 9)) 59)
      have k4 := blk_alloc g4 (.cells (madeCells #[.slice none 0 0, .slice none 0 0, .slice none 0 0, .slice none 0 0, .slice none 0 0, .slice none 0 0, .slice none 0 0, .slice none 0 0, .slice none 0 0] (n * 9)) 59)
      have k6 := blk_new w3 (.cells (madeCells #[.slice none 0 0, .slice none 0 0, .slice none 0 0, .slice none 0 0, .slice none 0 0, .slice none 0 0, .slice none 0 0, .slice none 0 0, .slice none 0 0] (n * 9)) 59)
      have k7 : w.heap.size ≤ w3.heap.size := g3.size
      refine hK.out _ _ ⟨k1, k2, k3⟩ (fun _ => ?_)
      clear hK K
      refine norm_ (a' := ?_) ?_ ?_
      rotate_left
      · show Act.put _ (some 9) _ = _
        simp only [Act.put, List.setIfInBounds_toArray, List.set_cons_zero, List.set_cons_succ, i64_w, i32_w]
        rfl
      generalize w3.alloc (.cells (madeCells #[.slice none 0 0, .slice none 0 0, .slice none 0 0, .slice none 0 0, .slice none 0 0, .slice none 0 0, .slice none 0 0, .slice none 0 0, .slice none 0 0] (n * 9)) 59) = w4 at *
      generalize w3.heap.size = bl at *
      refine pure_ (i := 4) (N := some 10) (v := ?_) (a' := ?_) #[true, true, true, true, true, true, false] rfl rfl (by kernel_rfl) (fun _ _ _ h => h) (Or.inl ⟨by rfl, ?_⟩) ?_ ?_
      rotate_left
      · intro w'
        go_simp
        with_reducible rfl
      rotate_left
      · simp only [Act.put, List.setIfInBounds_toArray, List.set_cons_zero, List.set_cons_succ, i64_w, i32_w]
        rfl
      have hC := hCont (bl, bm) _ ⟨k1, k2, k3, k6, k4, k7, g5⟩
      simp only [putAll, Act.put, List.setIfInBounds_toArray, List.set_cons_zero, List.set_cons_succ] at hC
      exact hC
  intro s_ w' hF
  obtain ⟨bl, bm⟩ := s_
  obtain ⟨h1, h2, h3, h4, h5, h6, h7⟩ := hF
  simp only at h4 h5 h6 h7
  refine norm_ (a' := ?_) ?_ ?_
  rotate_left
  · simp only [putAll]
    simp only [Act.put, List.setIfInBounds_toArray, List.set_cons_zero, List.set_cons_succ, i64_w, i32_w]
    rfl
  have hf := blk_frozen h5 0
  have H := Aside0.mk (And.intro h1 (And.intro h2 (And.intro h3 (And.intro h4 (And.intro h5 (And.intro h6 h7))))))
  refine one_ (i := 6) (N := none) #[true, true, true, true, true, true, true] rfl rfl (by kernel_rfl) (by decide) (fun K hK => ?_)
  have hst := run_store_run (P := Try.prog) (o := 0) 29 (.agg #[.int .i64 c0, .int .i64 c1, .int .i64 (n : Int), .int .i64 c3, .int .i64 c4, .int .i64 c5, .int .i64 c6, .int .i64 c7, .slice none 0 0, .slice (some ⟨bl, 0, none⟩) n n, .slice none 0 0, .slice none 0 0]) [.int .i64 c0, .int .i64 c1, .int .i64 (n : Int), .int .i64 c3, .int .i64 c4, .int .i64 c5, .int .i64 c6, .int .i64 c7, .slice none 0 0, .slice (some ⟨bl, 0, none⟩) n n, .slice none 0 0, .slice none 0 0] h5 rfl (by kernel_rfl) (by simp) (by simp [Value.oneCell'])
  have hrow := setCells_row [.int .i64 c0, .int .i64 c1, .int .i64 (n : Int), .int .i64 c3, .int .i64 c4, .int .i64 c5, .int .i64 c6, .int .i64 c7, .slice none 0 0, .slice (some ⟨bl, 0, none⟩) n n, .slice none 0 0, .slice none 0 0] 0 w' _ h5 (by simp)
  obtain ⟨cur', r1, _, r3⟩ := hrow
  obtain rfl : cur' = #[.int .i64 c0, .int .i64 c1, .int .i64 (n : Int), .int .i64 c3, .int .i64 c4, .int .i64 c5, .int .i64 c6, .int .i64 c7, .slice none 0 0, .slice (some ⟨bl, 0, none⟩) n n, .slice none 0 0, .slice none 0 0] := by
    apply Array.toList_inj.1
    rw [r3]
    rfl
  refine skip_ (w1 := w'.setCells bm 0 [.int .i64 c0, .int .i64 c1, .int .i64 (n : Int), .int .i64 c3, .int .i64 c4, .int .i64 c5, .int .i64 c6, .int .i64 c7, .slice none 0 0, .slice (some ⟨bl, 0, none⟩) n n, .slice none 0 0, .slice none 0 0]) (by rfl) rfl (by simp [execOp, Act.eval, hst]) ?_
  have e1 := (setCells_far [.int .i64 c0, .int .i64 c1, .int .i64 (n : Int), .int .i64 c3, .int .i64 c4, .int .i64 c5, .int .i64 c6, .int .i64 c7, .slice none 0 0, .slice (some ⟨bl, 0, none⟩) n n, .slice none 0 0, .slice none 0 0] 0 (w := w') (w.heap.size) (g := bm) (by omega)).trans h1
  have e2 := (setCells_far [.int .i64 c0, .int .i64 c1, .int .i64 (n : Int), .int .i64 c3, .int .i64 c4, .int .i64 c5, .int .i64 c6, .int .i64 c7, .slice none 0 0, .slice (some ⟨bl, 0, none⟩) n n, .slice none 0 0, .slice none 0 0] 0 (w := w') (w.heap.size + 1) (g := bm) (by omega)).trans h2
  have e3 := below_setCells_ (g := bm) (by omega : w.heap.size ≤ bm) [.int .i64 c0, .int .i64 c1, .int .i64 (n : Int), .int .i64 c3, .int .i64 c4, .int .i64 c5, .int .i64 c6, .int .i64 c7, .slice none 0 0, .slice (some ⟨bl, 0, none⟩) n n, .slice none 0 0, .slice none 0 0] 0 h3
  have e4 := (setCells_far [.int .i64 c0, .int .i64 c1, .int .i64 (n : Int), .int .i64 c3, .int .i64 c4, .int .i64 c5, .int .i64 c6, .int .i64 c7, .slice none 0 0, .slice (some ⟨bl, 0, none⟩) n n, .slice none 0 0, .slice none 0 0] 0 (w := w') bl (g := bm) (blk_ne h4 h5 (by decide))).trans h4
  refine hK.out _ _ ⟨e1, e2, e3⟩ (fun _ => ?_)
  clear hK K H
  generalize w'.setCells bm 0 [.int .i64 c0, .int .i64 c1, .int .i64 (n : Int), .int .i64 c3, .int .i64 c4, .int .i64 c5, .int .i64 c6, .int .i64 c7, .slice none 0 0, .slice (some ⟨bl, 0, none⟩) n n, .slice none 0 0, .slice none 0 0] = w5 at *
  refine done_ (by kernel_rfl) ?_
  have e5 : w5.heap[bm]? = some (.cells #[.int .i64 c0, .int .i64 c1, .int .i64 (n : Int), .int .i64 c3, .int .i64 c4, .int .i64 c5, .int .i64 c6, .int .i64 c7, .slice none 0 0, .slice (some ⟨bl, 0, none⟩) n n, .slice none 0 0, .slice none 0 0] 29 (0, 0)) := r1
  clear r1 r3 h1 h2 h3 h4 h5 hst hf
  have hx9 : w5.cell? ⟨bm, 9, none⟩ = some (.slice (some ⟨bl, 0, none⟩) n n) := (blk_cell e5 9).trans rfl
  have EV := Aside0.mk (show (fun (i_ : Nat) (lay_ : Array Value) (w_ : World) => w_.heap[w.heap.size]? = some (.cells #[.int .i64 c0, .int .i64 c1, .int .i64 (n : Int), .int .i64 c3, .int .i64 c4, .int .i64 c5, .int .i64 c6, .int .i64 c7] 23 (0, 0)) ∧ w_.heap[w.heap.size + 1]? = some (.cells #[.int .i64 0, .int .i64 0, .int .i64 0, .int .i64 0, .int .i64 0, .int .i64 0, .int .i64 0, .int .i64 0, .slice none 0 0, .slice none 0 0, .slice none 0 0, .slice none 0 0] 29 (0, 0)) ∧ Below w.heap.size w w_ ∧ w_.heap[bl]? = some (.cells lay_ 59 (0, 0)) ∧ w_.heap[bm]? = some (.cells #[.int .i64 c0, .int .i64 c1, .int .i64 (n : Int), .int .i64 c3, .int .i64 c4, .int .i64 c5, .int .i64 c6, .int .i64 c7, .slice none 0 0, .slice (some ⟨bl, 0, none⟩) n n, .slice none 0 0, .slice none 0 0] 29 (0, 0)) ∧ lay_.size = n * 9 ∧ ∀ i, i < i_ → ∃ u d, lay_[i * 9 + 7]? = some (.slice (some ⟨u, 0, none⟩) k k) ∧ lay_[i * 9 + 8]? = some (.slice (some ⟨d, 0, none⟩) k k)) 0 (madeCells #[.slice none 0 0, .slice none 0 0, .slice none 0 0, .slice none 0 0, .slice none 0 0, .slice none 0 0, .slice none 0 0, .slice none 0 0, .slice none 0 0] (n * 9)) w5 from ⟨e1, e2, e3, e4, e5, by simp [size_madeCells], fun i hi => absurd hi (Nat.not_lt_zero i)⟩)
  clear e1 e2 e3 e4 e5
  go_wp2
  go_loopg [14] n (fun kq v14 wr => ∃ (i : Nat) (lay : Array Value), v14 = .int .i64 (i : Int) ∧ i + kq = n ∧ Aside0 ((fun (i_ : Nat) (lay_ : Array Value) (w_ : World) => w_.heap[w.heap.size]? = some (.cells #[.int .i64 c0, .int .i64 c1, .int .i64 (n : Int), .int .i64 c3, .int .i64 c4, .int .i64 c5, .int .i64 c6, .int .i64 c7] 23 (0, 0)) ∧ w_.heap[w.heap.size + 1]? = some (.cells #[.int .i64 0, .int .i64 0, .int .i64 0, .int .i64 0, .int .i64 0, .int .i64 0, .int .i64 0, .int .i64 0, .slice none 0 0, .slice none 0 0, .slice none 0 0, .slice none 0 0] 29 (0, 0)) ∧ Below w.heap.size w w_ ∧ w_.heap[bl]? = some (.cells lay_ 59 (0, 0)) ∧ w_.heap[bm]? = some (.cells #[.int .i64 c0, .int .i64 c1, .int .i64 (n : Int), .int .i64 c3, .int .i64 c4, .int .i64 c5, .int .i64 c6, .int .i64 c7, .slice none 0 0, .slice (some ⟨bl, 0, none⟩) n n, .slice none 0 0, .slice none 0 0] 29 (0, 0)) ∧ lay_.size = n * 9 ∧ ∀ i, i < i_ → ∃ u d, lay_[i * 9 + 7]? = some (.slice (some ⟨u, 0, none⟩) k k) ∧ lay_[i * 9 + 8]? = some (.slice (some ⟨d, 0, none⟩) k k)) i lay wr))
  case atStart => exact ⟨0, _, rfl, by omega, EV⟩
  case round =>
    obtain ⟨i, lay, rfl, hik, EV2⟩ := hrel
    clear EV hx9
    have EV := EV2
    clear EV2
    have hx5 : wr.cell? ⟨w.heap.size, 5, none⟩ = some (.int .i64 c5) := (blk_cell EV.out.1 5).trans rfl
    by_cases ci : i < n
    · have cb : decide ((i : Int) < (n : Int)) = true := decide_eq_true (by omega)
      go_wp2
      have al : ∀ (L : Array Value) (W : World) (o : Obj), (fun (lay_ : Array Value) (w_ : World) => w_.heap[w.heap.size]? = some (.cells #[.int .i64 c0, .int .i64 c1, .int .i64 (n : Int), .int .i64 c3, .int .i64 c4, .int .i64 c5, .int .i64 c6, .int .i64 c7] 23 (0, 0)) ∧ w_.heap[w.heap.size + 1]? = some (.cells #[.int .i64 0, .int .i64 0, .int .i64 0, .int .i64 0, .int .i64 0, .int .i64 0, .int .i64 0, .int .i64 0, .slice none 0 0, .slice none 0 0, .slice none 0 0, .slice none 0 0] 29 (0, 0)) ∧ Below w.heap.size w w_ ∧ w_.heap[bl]? = some (.cells lay_ 59 (0, 0)) ∧ w_.heap[bm]? = some (.cells #[.int .i64 c0, .int .i64 c1, .int .i64 (n : Int), .int .i64 c3, .int .i64 c4, .int .i64 c5, .int .i64 c6, .int .i64 c7, .slice none 0 0, .slice (some ⟨bl, 0, none⟩) n n, .slice none 0 0, .slice none 0 0] 29 (0, 0))) L W → (fun (lay_ : Array Value) (w_ : World) => w_.heap[w.heap.size]? = some (.cells #[.int .i64 c0, .int .i64 c1, .int .i64 (n : Int), .int .i64 c3, .int .i64 c4, .int .i64 c5, .int .i64 c6, .int .i64 c7] 23 (0, 0)) ∧ w_.heap[w.heap.size + 1]? = some (.cells #[.int .i64 0, .int .i64 0, .int .i64 0, .int .i64 0, .int .i64 0, .int .i64 0, .int .i64 0, .int .i64 0, .slice none 0 0, .slice none 0 0, .slice none 0 0, .slice none 0 0] 29 (0, 0)) ∧ Below w.heap.size w w_ ∧ w_.heap[bl]? = some (.cells lay_ 59 (0, 0)) ∧ w_.heap[bm]? = some (.cells #[.int .i64 c0, .int .i64 c1, .int .i64 (n : Int), .int .i64 c3, .int .i64 c4, .int .i64 c5, .int .i64 c6, .int .i64 c7, .slice none 0 0, .slice (some ⟨bl, 0, none⟩) n n, .slice none 0 0, .slice none 0 0] 29 (0, 0))) L (W.alloc o) := fun L W o h => ⟨blk_alloc h.1 _, blk_alloc h.2.1 _, below_alloc h.2.2.1 _, blk_alloc h.2.2.2.1 _, blk_alloc h.2.2.2.2 _⟩
      have st : ∀ (L : Array Value) (W : World) (j : Nat) (v : Value), (fun (lay_ : Array Value) (w_ : World) => w_.heap[w.heap.size]? = some (.cells #[.int .i64 c0, .int .i64 c1, .int .i64 (n : Int), .int .i64 c3, .int .i64 c4, .int .i64 c5, .int .i64 c6, .int .i64 c7] 23 (0, 0)) ∧ w_.heap[w.heap.size + 1]? = some (.cells #[.int .i64 0, .int .i64 0, .int .i64 0, .int .i64 0, .int .i64 0, .int .i64 0, .int .i64 0, .int .i64 0, .slice none 0 0, .slice none 0 0, .slice none 0 0, .slice none 0 0] 29 (0, 0)) ∧ Below w.heap.size w w_ ∧ w_.heap[bl]? = some (.cells lay_ 59 (0, 0)) ∧ w_.heap[bm]? = some (.cells #[.int .i64 c0, .int .i64 c1, .int .i64 (n : Int), .int .i64 c3, .int .i64 c4, .int .i64 c5, .int .i64 c6, .int .i64 c7, .slice none 0 0, .slice (some ⟨bl, 0, none⟩) n n, .slice none 0 0, .slice none 0 0] 29 (0, 0))) L W → (fun (lay_ : Array Value) (w_ : World) => w_.heap[w.heap.size]? = some (.cells #[.int .i64 c0, .int .i64 c1, .int .i64 (n : Int), .int .i64 c3, .int .i64 c4, .int .i64 c5, .int .i64 c6, .int .i64 c7] 23 (0, 0)) ∧ w_.heap[w.heap.size + 1]? = some (.cells #[.int .i64 0, .int .i64 0, .int .i64 0, .int .i64 0, .int .i64 0, .int .i64 0, .int .i64 0, .int .i64 0, .slice none 0 0, .slice none 0 0, .slice none 0 0, .slice none 0 0] 29 (0, 0)) ∧ Below w.heap.size w w_ ∧ w_.heap[bl]? = some (.cells lay_ 59 (0, 0)) ∧ w_.heap[bm]? = some (.cells #[.int .i64 c0, .int .i64 c1, .int .i64 (n : Int), .int .i64 c3, .int .i64 c4, .int .i64 c5, .int .i64 c6, .int .i64 c7, .slice none 0 0, .slice (some ⟨bl, 0, none⟩) n n, .slice none 0 0, .slice none 0 0] 29 (0, 0))) (L.setIfInBounds j v) (W.setCells bl j [v]) := fun L W j v h => ⟨(setCells_far [v] j _ (blk_ne h.1 h.2.2.2.1 (by decide))).trans h.1, (setCells_far [v] j _ (blk_ne h.2.1 h.2.2.2.1 (by decide))).trans h.2.1, below_setCells_ h6 [v] j h.2.2.1, blk_set h.2.2.2.1 j v, (setCells_far [v] j _ (blk_ne h.2.2.2.2 h.2.2.2.1 (by decide))).trans h.2.2.2.2⟩
      have hmk2 : ∀ W : World, (Instr.makeSlice 57 (.int .i64 (k : Int)) (.int .i64 (k : Int))).run Try.prog W = .ok (.slice (some ⟨W.heap.size, 0, none⟩) k k) (W.alloc (.cells (madeCells #[.slice none 0 0] k) 26)) := fun W => print_make_of 57 26 _ 24 Try.underlying57 info26 rfl (by decide) k (by omega) W
      have cp := eq_true (show 0 ≤ (i : Int) by omega)
      have cq := eq_true (show (i : Int) < (n : Int) by omega)
      obtain ⟨v1, v2, v3, v4, v5, hsz, hold⟩ := EV.out
      have f0 : (fun (lay_ : Array Value) (w_ : World) => w_.heap[w.heap.size]? = some (.cells #[.int .i64 c0, .int .i64 c1, .int .i64 (n : Int), .int .i64 c3, .int .i64 c4, .int .i64 c5, .int .i64 c6, .int .i64 c7] 23 (0, 0)) ∧ w_.heap[w.heap.size + 1]? = some (.cells #[.int .i64 0, .int .i64 0, .int .i64 0, .int .i64 0, .int .i64 0, .int .i64 0, .int .i64 0, .int .i64 0, .slice none 0 0, .slice none 0 0, .slice none 0 0, .slice none 0 0] 29 (0, 0)) ∧ Below w.heap.size w w_ ∧ w_.heap[bl]? = some (.cells lay_ 59 (0, 0)) ∧ w_.heap[bm]? = some (.cells #[.int .i64 c0, .int .i64 c1, .int .i64 (n : Int), .int .i64 c3, .int .i64 c4, .int .i64 c5, .int .i64 c6, .int .i64 c7, .slice none 0 0, .slice (some ⟨bl, 0, none⟩) n n, .slice none 0 0, .slice none 0 0] 29 (0, 0))) lay wr := ⟨v1, v2, v3, v4, v5⟩
      have OLD := Aside0.mk hold
      clear v1 v2 v3 v4 v5 hold hx5
      have f1 : (fun (lay_ : Array Value) (w_ : World) => w_.heap[w.heap.size]? = some (.cells #[.int .i64 c0, .int .i64 c1, .int .i64 (n : Int), .int .i64 c3, .int .i64 c4, .int .i64 c5, .int .i64 c6, .int .i64 c7] 23 (0, 0)) ∧ w_.heap[w.heap.size + 1]? = some (.cells #[.int .i64 0, .int .i64 0, .int .i64 0, .int .i64 0, .int .i64 0, .int .i64 0, .int .i64 0, .int .i64 0, .slice none 0 0, .slice none 0 0, .slice none 0 0, .slice none 0 0] 29 (0, 0)) ∧ Below w.heap.size w w_ ∧ w_.heap[bl]? = some (.cells lay_ 59 (0, 0)) ∧ w_.heap[bm]? = some (.cells #[.int .i64 c0, .int .i64 c1, .int .i64 (n : Int), .int .i64 c3, .int .i64 c4, .int .i64 c5, .int .i64 c6, .int .i64 c7, .slice none 0 0, .slice (some ⟨bl, 0, none⟩) n n, .slice none 0 0, .slice none 0 0] 29 (0, 0))) lay wr.drew := ⟨f0.1, f0.2.1, below_drew1 f0.2.2.1, f0.2.2.2.1, f0.2.2.2.2⟩
      refine start_ (n := 16) (S := fun w' => w'.heap[bm]? = some (.cells #[.int .i64 c0, .int .i64 c1, .int .i64 (n : Int), .int .i64 c3, .int .i64 c4, .int .i64 c5, .int .i64 c6, .int .i64 c7, .slice none 0 0, .slice (some ⟨bl, 0, none⟩) n n, .slice none 0 0, .slice none 0 0] 29 (0, 0))) (ds := []) #[false, false, false, false, false, false, false, false, false, false, false, false, false, false, false, false] (by kernel_rfl) rfl rfl f1.2.2.2.2 (fun hHeld => ?_)
      clear f0
      generalize wr.drew = w6 at f1 hHeld ⊢
      refine pure_ (i := 0) (N := some 20) (v := ?_) (a' := ?_) #[true, false, false, false, false, false, false, false, false, false, false, false, false, false, false, false] rfl rfl (by kernel_rfl) (fun _ _ _ h => h) (Or.inl ⟨by rfl, ?_⟩) ?_ ?_
      rotate_left
      · intro w'
        go_simp
        with_reducible rfl
      rotate_left
      · simp only [Act.put, List.setIfInBounds_toArray, List.set_cons_zero, List.set_cons_succ, i64_w, i32_w]
        rfl
      refine take_ (i := 1) (N := some 21) (v := ?_) (a' := ?_) #[true, true, false, false, false, false, false, false, false, false, false, false, false, false, false, false] rfl rfl (by kernel_rfl) (fun _ _ _ h => h) (Or.inl ⟨by rfl, ?_⟩) hHeld ?_ ?_
      rotate_left
      · intro w' s0
        have hx9 : w'.cell? ⟨bm, 9, none⟩ = some (.slice (some ⟨bl, 0, none⟩) n n) := (blk_cell s0 9).trans rfl
        go_simp
        with_reducible rfl
      rotate_left
      · simp only [Act.put, List.setIfInBounds_toArray, List.set_cons_zero, List.set_cons_succ, i64_w, i32_w]
        rfl
      refine pure_ (i := 2) (N := some 22) (v := ?_) (a' := ?_) #[true, true, true, false, false, false, false, false, false, false, false, false, false, false, false, false] rfl rfl (by kernel_rfl) (fun _ _ _ h => h) (Or.inl ⟨by rfl, ?_⟩) ?_ ?_
      rotate_left
      · intro w'
        go_simp
        with_reducible rfl
      rotate_left
      · simp only [Act.put, List.setIfInBounds_toArray, List.set_cons_zero, List.set_cons_succ, i64_w, i32_w]
        rfl
      refine pure_ (i := 3) (N := some 23) (v := ?_) (a' := ?_) #[true, true, true, true, false, false, false, false, false, false, false, false, false, false, false, false] rfl rfl (by kernel_rfl) (fun _ _ _ h => h) (Or.inl ⟨by rfl, ?_⟩) ?_ ?_
      rotate_left
      · intro w'
        go_simp
        with_reducible rfl
      rotate_left
      · simp only [Act.put, List.setIfInBounds_toArray, List.set_cons_zero, List.set_cons_succ, i64_w, i32_w]
        rfl
      refine take_ (i := 4) (N := some 24) (v := ?_) (a' := ?_) #[true, true, true, true, true, false, false, false, false, false, false, false, false, false, false, false] rfl rfl (by kernel_rfl) (fun _ _ _ h => h) (Or.inl ⟨by rfl, ?_⟩) hHeld ?_ ?_
      rotate_left
      · intro w' s0
        have hx9 : w'.cell? ⟨bm, 9, none⟩ = some (.slice (some ⟨bl, 0, none⟩) n n) := (blk_cell s0 9).trans rfl
        go_simp
        with_reducible rfl
      rotate_left
      · simp only [Act.put, List.setIfInBounds_toArray, List.set_cons_zero, List.set_cons_succ, i64_w, i32_w]
        rfl
      refine pure_ (i := 5) (N := some 25) (v := ?_) (a' := ?_) #[true, true, true, true, true, true, false, false, false, false, false, false, false, false, false, false] rfl rfl (by kernel_rfl) (fun _ _ _ h => h) (Or.inl ⟨by rfl, ?_⟩) ?_ ?_
      rotate_left
      · intro w'
        go_simp
        with_reducible rfl
      rotate_left
      · simp only [Act.put, List.setIfInBounds_toArray, List.set_cons_zero, List.set_cons_succ, i64_w, i32_w]
        rfl
      refine pure_ (i := 6) (N := some 26) (v := ?_) (a' := ?_) #[true, true, true, true, true, true, true, false, false, false, false, false, false, false, false, false] rfl rfl (by kernel_rfl) (fun _ _ _ h => h) (Or.inl ⟨by rfl, ?_⟩) ?_ ?_
      rotate_left
      · intro w'
        go_simp
        with_reducible rfl
      rotate_left
      · simp only [Act.put, List.setIfInBounds_toArray, List.set_cons_zero, List.set_cons_succ, i64_w, i32_w]
        rfl
      refine pure_ (i := 8) (N := some 28) (v := ?_) (a' := ?_) #[true, true, true, true, true, true, true, false, true, false, false, false, false, false, false, false] rfl rfl (by kernel_rfl) (fun _ _ _ h => h) (Or.inl ⟨by rfl, ?_⟩) ?_ ?_
      rotate_left
      · intro w'
        go_simp
        with_reducible rfl
      rotate_left
      · simp only [Act.put, List.setIfInBounds_toArray, List.set_cons_zero, List.set_cons_succ, i64_w, i32_w]
        rfl
      refine join_ (σ := Nat × Nat) 3 #[true, true, true, true, true, true, true, true, true, true, true, true, true, false, false, false] (fun s_ => [(27, .slice (some ⟨s_.1, 0, none⟩) k k), (29, .slice (some ⟨s_.2, 0, none⟩) k k), (30, .pointer (some ⟨bl, i * 9, none⟩)), (31, .pointer (some ⟨bl, i * 9 + 7, none⟩))]) (fun s_ w_ => (fun (lay_ : Array Value) (w_ : World) => w_.heap[w.heap.size]? = some (.cells #[.int .i64 c0, .int .i64 c1, .int .i64 (n : Int), .int .i64 c3, .int .i64 c4, .int .i64 c5, .int .i64 c6, .int .i64 c7] 23 (0, 0)) ∧ w_.heap[w.heap.size + 1]? = some (.cells #[.int .i64 0, .int .i64 0, .int .i64 0, .int .i64 0, .int .i64 0, .int .i64 0, .int .i64 0, .int .i64 0, .slice none 0 0, .slice none 0 0, .slice none 0 0, .slice none 0 0] 29 (0, 0)) ∧ Below w.heap.size w w_ ∧ w_.heap[bl]? = some (.cells lay_ 59 (0, 0)) ∧ w_.heap[bm]? = some (.cells #[.int .i64 c0, .int .i64 c1, .int .i64 (n : Int), .int .i64 c3, .int .i64 c4, .int .i64 c5, .int .i64 c6, .int .i64 c7, .slice none 0 0, .slice (some ⟨bl, 0, none⟩) n n, .slice none 0 0, .slice none 0 0] 29 (0, 0))) (lay.setIfInBounds (i * 9 + 7) (.slice (some ⟨s_.1, 0, none⟩) k k)) w_) ?_ ?_
      rotate_left
      · intro hCont
        refine two_ (i := 7) (j := 9) (Ni := some 27) (Nj := some 29) #[true, true, true, true, true, true, true, true, true, false, false, false, false, false, false, false] #[true, true, true, true, true, true, true, false, true, true, false, false, false, false, false, false] rfl rfl rfl rfl (by kernel_rfl) (by decide) (by decide) (fun K hK => ?_) (fun K hK => ?_)
        · refine value_ (v := .slice (some ⟨w6.heap.size, 0, none⟩) k k) (w1 := w6.alloc (.cells (madeCells #[.slice none 0 0] k) 26)) (by rfl) rfl (by simp [execOp, Act.eval, hmk2]) ?_
          have f1' := al _ _ (.cells (madeCells #[.slice none 0 0] k) 26) f1
          refine hK.out _ _ f1'.2.2.2.2 (fun _ => ?_)
          clear hK K
          refine norm_ (a' := ?_) ?_ ?_
          rotate_left
          · show Act.put _ (some 27) _ = _
            simp only [Act.put, List.setIfInBounds_toArray, List.set_cons_zero, List.set_cons_succ, i64_w, i32_w]
            rfl
          clear f1
          have f1 := f1'
          clear f1'
          generalize w6.alloc (.cells (madeCells #[.slice none 0 0] k) 26) = w7 at *
          generalize w6.heap.size = bu at *
          refine pure_ (i := 10) (N := some 30) (v := ?_) (a' := ?_) #[true, true, true, true, true, true, true, true, true, false, true, false, false, false, false, false] rfl rfl (by kernel_rfl) (fun _ _ _ h => h) (Or.inl ⟨by rfl, ?_⟩) ?_ ?_
          rotate_left
          · intro w'
            go_simp
            with_reducible rfl
          rotate_left
          · simp only [Act.put, List.setIfInBounds_toArray, List.set_cons_zero, List.set_cons_succ, i64_w, i32_w]
            rfl
          refine pure_ (i := 11) (N := some 31) (v := ?_) (a' := ?_) #[true, true, true, true, true, true, true, true, true, false, true, true, false, false, false, false] rfl rfl (by kernel_rfl) (fun _ _ _ h => h) (Or.inl ⟨by rfl, ?_⟩) ?_ ?_
          rotate_left
          · intro w'
            go_simp
            with_reducible rfl
          rotate_left
          · simp only [Act.put, List.setIfInBounds_toArray, List.set_cons_zero, List.set_cons_succ, i64_w, i32_w]
            rfl
          refine two_ (i := 9) (j := 12) (Ni := some 29) (Nj := none) #[true, true, true, true, true, true, true, true, true, true, true, true, false, false, false, false] #[true, true, true, true, true, true, true, true, true, false, true, true, true, false, false, false] rfl rfl rfl rfl (by kernel_rfl) (by decide) (by decide) (fun K hK => ?_) (fun K hK => ?_)
          · refine value_ (v := .slice (some ⟨w7.heap.size, 0, none⟩) k k) (w1 := w7.alloc (.cells (madeCells #[.slice none 0 0] k) 26)) (by rfl) rfl (by simp [execOp, Act.eval, hmk2]) ?_
            have f1' := al _ _ (.cells (madeCells #[.slice none 0 0] k) 26) f1
            refine hK.out _ _ f1'.2.2.2.2 (fun _ => ?_)
            clear hK K
            refine norm_ (a' := ?_) ?_ ?_
            rotate_left
            · show Act.put _ (some 29) _ = _
              simp only [Act.put, List.setIfInBounds_toArray, List.set_cons_zero, List.set_cons_succ, i64_w, i32_w]
              rfl
            clear f1
            have f1 := f1'
            clear f1'
            generalize w7.alloc (.cells (madeCells #[.slice none 0 0] k) 26) = w8 at *
            generalize w7.heap.size = bd at *
            refine one_ (i := 12) (N := none) #[true, true, true, true, true, true, true, true, true, true, true, true, true, false, false, false] rfl rfl (by kernel_rfl) (by decide) (fun K hK => ?_)
            have hst := run_store_run (P := Try.prog) (o := i * 9 + 7) 57 (.slice (some ⟨bu, 0, none⟩) k k) [.slice (some ⟨bu, 0, none⟩) k k] f1.2.2.2.1 rfl (by kernel_rfl) (by simp; omega) (by simp [Value.oneCell'])
            refine skip_ (w1 := w8.setCells bl (i * 9 + 7) [.slice (some ⟨bu, 0, none⟩) k k]) (by rfl) rfl (by simp [execOp, Act.eval, hst]) ?_
            have f1' := st _ _ (i * 9 + 7) (.slice (some ⟨bu, 0, none⟩) k k) f1
            clear hst
            refine hK.out _ _ f1'.2.2.2.2 (fun _ => ?_)
            clear hK K
            clear f1
            have f1 := f1'
            clear f1'
            generalize w8.setCells bl (i * 9 + 7) [.slice (some ⟨bu, 0, none⟩) k k] = w9 at *
            have hC := hCont (bu, bd) w9 f1
            simp only [putAll, Act.put, List.setIfInBounds_toArray, List.set_cons_zero, List.set_cons_succ] at hC
            exact hC
          · have hst := run_store_run (P := Try.prog) (o := i * 9 + 7) 57 (.slice (some ⟨bu, 0, none⟩) k k) [.slice (some ⟨bu, 0, none⟩) k k] f1.2.2.2.1 rfl (by kernel_rfl) (by simp; omega) (by simp [Value.oneCell'])
            refine skip_ (w1 := w7.setCells bl (i * 9 + 7) [.slice (some ⟨bu, 0, none⟩) k k]) (by rfl) rfl (by simp [execOp, Act.eval, hst]) ?_
            have f1' := st _ _ (i * 9 + 7) (.slice (some ⟨bu, 0, none⟩) k k) f1
            clear hst
            refine hK.out _ _ f1'.2.2.2.2 (fun _ => ?_)
            clear hK K
            clear f1
            have f1 := f1'
            clear f1'
            generalize w7.setCells bl (i * 9 + 7) [.slice (some ⟨bu, 0, none⟩) k k] = w8 at *
            refine one_ (i := 9) (N := some 29) #[true, true, true, true, true, true, true, true, true, true, true, true, true, false, false, false] rfl rfl (by kernel_rfl) (by decide) (fun K hK => ?_)
            refine value_ (v := .slice (some ⟨w8.heap.size, 0, none⟩) k k) (w1 := w8.alloc (.cells (madeCells #[.slice none 0 0] k) 26)) (by rfl) rfl (by simp [execOp, Act.eval, hmk2]) ?_
            have f1' := al _ _ (.cells (madeCells #[.slice none 0 0] k) 26) f1
            refine hK.out _ _ f1'.2.2.2.2 (fun _ => ?_)
            clear hK K
            refine norm_ (a' := ?_) ?_ ?_
            rotate_left
            · show Act.put _ (some 29) _ = _
              simp only [Act.put, List.setIfInBounds_toArray, List.set_cons_zero, List.set_cons_succ, i64_w, i32_w]
              rfl
            clear f1
            have f1 := f1'
            clear f1'
            generalize w8.alloc (.cells (madeCells #[.slice none 0 0] k) 26) = w9 at *
            generalize w8.heap.size = bd at *
            have hC := hCont (bu, bd) w9 f1
            simp only [putAll, Act.put, List.setIfInBounds_toArray, List.set_cons_zero, List.set_cons_succ] at hC
            exact hC
        · refine value_ (v := .slice (some ⟨w6.heap.size, 0, none⟩) k k) (w1 := w6.alloc (.cells (madeCells #[.slice none 0 0] k) 26)) (by rfl) rfl (by simp [execOp, Act.eval, hmk2]) ?_
          have f1' := al _ _ (.cells (madeCells #[.slice none 0 0] k) 26) f1
          refine hK.out _ _ f1'.2.2.2.2 (fun _ => ?_)
          clear hK K
          refine norm_ (a' := ?_) ?_ ?_
          rotate_left
          · show Act.put _ (some 29) _ = _
            simp only [Act.put, List.setIfInBounds_toArray, List.set_cons_zero, List.set_cons_succ, i64_w, i32_w]
            rfl
          clear f1
          have f1 := f1'
          clear f1'
          generalize w6.alloc (.cells (madeCells #[.slice none 0 0] k) 26) = w7 at *
          generalize w6.heap.size = bd at *
          refine one_ (i := 7) (N := some 27) #[true, true, true, true, true, true, true, true, true, true, false, false, false, false, false, false] rfl rfl (by kernel_rfl) (by decide) (fun K hK => ?_)
          refine value_ (v := .slice (some ⟨w7.heap.size, 0, none⟩) k k) (w1 := w7.alloc (.cells (madeCells #[.slice none 0 0] k) 26)) (by rfl) rfl (by simp [execOp, Act.eval, hmk2]) ?_
          have f1' := al _ _ (.cells (madeCells #[.slice none 0 0] k) 26) f1
          refine hK.out _ _ f1'.2.2.2.2 (fun _ => ?_)
          clear hK K
          refine norm_ (a' := ?_) ?_ ?_
          rotate_left
          · show Act.put _ (some 27) _ = _
            simp only [Act.put, List.setIfInBounds_toArray, List.set_cons_zero, List.set_cons_succ, i64_w, i32_w]
            rfl
          clear f1
          have f1 := f1'
          clear f1'
          generalize w7.alloc (.cells (madeCells #[.slice none 0 0] k) 26) = w8 at *
          generalize w7.heap.size = bu at *
          refine pure_ (i := 10) (N := some 30) (v := ?_) (a' := ?_) #[true, true, true, true, true, true, true, true, true, true, true, false, false, false, false, false] rfl rfl (by kernel_rfl) (fun _ _ _ h => h) (Or.inl ⟨by rfl, ?_⟩) ?_ ?_
          rotate_left
          · intro w'
            go_simp
            with_reducible rfl
          rotate_left
          · simp only [Act.put, List.setIfInBounds_toArray, List.set_cons_zero, List.set_cons_succ, i64_w, i32_w]
            rfl
          refine pure_ (i := 11) (N := some 31) (v := ?_) (a' := ?_) #[true, true, true, true, true, true, true, true, true, true, true, true, false, false, false, false] rfl rfl (by kernel_rfl) (fun _ _ _ h => h) (Or.inl ⟨by rfl, ?_⟩) ?_ ?_
          rotate_left
          · intro w'
            go_simp
            with_reducible rfl
          rotate_left
          · simp only [Act.put, List.setIfInBounds_toArray, List.set_cons_zero, List.set_cons_succ, i64_w, i32_w]
            rfl
          refine one_ (i := 12) (N := none) #[true, true, true, true, true, true, true, true, true, true, true, true, true, false, false, false] rfl rfl (by kernel_rfl) (by decide) (fun K hK => ?_)
          have hst := run_store_run (P := Try.prog) (o := i * 9 + 7) 57 (.slice (some ⟨bu, 0, none⟩) k k) [.slice (some ⟨bu, 0, none⟩) k k] f1.2.2.2.1 rfl (by kernel_rfl) (by simp; omega) (by simp [Value.oneCell'])
          refine skip_ (w1 := w8.setCells bl (i * 9 + 7) [.slice (some ⟨bu, 0, none⟩) k k]) (by rfl) rfl (by simp [execOp, Act.eval, hst]) ?_
          have f1' := st _ _ (i * 9 + 7) (.slice (some ⟨bu, 0, none⟩) k k) f1
          clear hst
          refine hK.out _ _ f1'.2.2.2.2 (fun _ => ?_)
          clear hK K
          clear f1
          have f1 := f1'
          clear f1'
          generalize w8.setCells bl (i * 9 + 7) [.slice (some ⟨bu, 0, none⟩) k k] = w9 at *
          have hC := hCont (bu, bd) w9 f1
          simp only [putAll, Act.put, List.setIfInBounds_toArray, List.set_cons_zero, List.set_cons_succ] at hC
          exact hC
      clear f1 hHeld
      intro s_ w7 f1
      obtain ⟨bu, bd⟩ := s_
      simp only at f1
      refine norm_ (a' := ?_) ?_ ?_
      rotate_left
      · simp only [putAll]
        simp only [Act.put, List.setIfInBounds_toArray, List.set_cons_zero, List.set_cons_succ, i64_w, i32_w]
        rfl
      refine pure_ (i := 13) (N := some 32) (v := ?_) (a' := ?_) #[true, true, true, true, true, true, true, true, true, true, true, true, true, true, false, false] rfl rfl (by kernel_rfl) (fun _ _ _ h => h) (Or.inl ⟨by rfl, ?_⟩) ?_ ?_
      rotate_left
      · intro w'
        go_simp
        with_reducible rfl
      rotate_left
      · simp only [Act.put, List.setIfInBounds_toArray, List.set_cons_zero, List.set_cons_succ, i64_w, i32_w]
        rfl
      refine pure_ (i := 14) (N := some 33) (v := ?_) (a' := ?_) #[true, true, true, true, true, true, true, true, true, true, true, true, true, true, true, false] rfl rfl (by kernel_rfl) (fun _ _ _ h => h) (Or.inl ⟨by rfl, ?_⟩) ?_ ?_
      rotate_left
      · intro w'
        go_simp
        with_reducible rfl
      rotate_left
      · simp only [Act.put, List.setIfInBounds_toArray, List.set_cons_zero, List.set_cons_succ, i64_w, i32_w]
        rfl
      refine one_ (i := 15) (N := none) #[true, true, true, true, true, true, true, true, true, true, true, true, true, true, true, true] rfl rfl (by kernel_rfl) (by decide) (fun K hK => ?_)
      have hst := run_store_run (P := Try.prog) (o := i * 9 + 8) 57 (.slice (some ⟨bd, 0, none⟩) k k) [.slice (some ⟨bd, 0, none⟩) k k] f1.2.2.2.1 rfl (by kernel_rfl) (by simp; omega) (by simp [Value.oneCell'])
      refine skip_ (w1 := w7.setCells bl (i * 9 + 8) [.slice (some ⟨bd, 0, none⟩) k k]) (by rfl) rfl (by simp [execOp, Act.eval, hst]) ?_
      have f1' := st _ _ (i * 9 + 8) (.slice (some ⟨bd, 0, none⟩) k k) f1
      clear hst
      refine hK.out _ _ f1'.2.2.2.2 (fun _ => ?_)
      clear hK K
      clear f1
      have f1 := f1'
      clear f1'
      generalize w7.setCells bl (i * 9 + 8) [.slice (some ⟨bd, 0, none⟩) k k] = w8 at *
      refine done_ (by kernel_rfl) ?_
      have F1 := Aside0.mk f1
      clear f1
      go_wp2
      go_roundg (n - i - 1)
      case measure => omega
      case rel =>
        refine ⟨i + 1, _, by simp, by omega, ⟨F1.out.1, F1.out.2.1, F1.out.2.2.1, F1.out.2.2.2.1, F1.out.2.2.2.2, by simp [hsz], ?_⟩⟩
        intro i2 hi2
        by_cases e : i2 = i
        · subst e
          refine ⟨bu, bd, ?_, ?_⟩
          · rw [Array.getElem?_setIfInBounds_ne (by omega), Array.getElem?_setIfInBounds_self, if_pos (by rw [hsz]; omega)]
          · rw [Array.getElem?_setIfInBounds_self, if_pos (by simp only [Array.size_setIfInBounds]; rw [hsz]; omega)]
        · obtain ⟨u, d, z1, z2⟩ := OLD.out i2 (by omega)
          refine ⟨u, d, ?_, ?_⟩
          · rw [Array.getElem?_setIfInBounds_ne (by omega), Array.getElem?_setIfInBounds_ne (by omega)]; exact z1
          · rw [Array.getElem?_setIfInBounds_ne (by omega), Array.getElem?_setIfInBounds_ne (by omega)]; exact z2
    · have cb : decide ((i : Int) < (n : Int)) = false := decide_eq_false (by omega)
      clear hx5
      obtain ⟨v1, v2, v3, v4, v5, hsz, hold⟩ := EV.out
      have hz0 : wr.cell? ⟨bm, 0, none⟩ = some (.int .i64 c0) := (blk_cell v5 0).trans rfl
      have hz1 : wr.cell? ⟨bm, 1, none⟩ = some (.int .i64 c1) := (blk_cell v5 1).trans rfl
      have hz2 : wr.cell? ⟨bm, 2, none⟩ = some (.int .i64 (n : Int)) := (blk_cell v5 2).trans rfl
      have hz3 : wr.cell? ⟨bm, 3, none⟩ = some (.int .i64 c3) := (blk_cell v5 3).trans rfl
      have hz4 : wr.cell? ⟨bm, 4, none⟩ = some (.int .i64 c4) := (blk_cell v5 4).trans rfl
      have hz5 : wr.cell? ⟨bm, 5, none⟩ = some (.int .i64 c5) := (blk_cell v5 5).trans rfl
      have hz6 : wr.cell? ⟨bm, 6, none⟩ = some (.int .i64 c6) := (blk_cell v5 6).trans rfl
      have hz7 : wr.cell? ⟨bm, 7, none⟩ = some (.int .i64 c7) := (blk_cell v5 7).trans rfl
      have hz8 : wr.cell? ⟨bm, 8, none⟩ = some (.slice none 0 0) := (blk_cell v5 8).trans rfl
      have hz9 : wr.cell? ⟨bm, 9, none⟩ = some (.slice (some ⟨bl, 0, none⟩) n n) := (blk_cell v5 9).trans rfl
      have hz10 : wr.cell? ⟨bm, 10, none⟩ = some (.slice none 0 0) := (blk_cell v5 10).trans rfl
      have hz11 : wr.cell? ⟨bm, 11, none⟩ = some (.slice none 0 0) := (blk_cell v5 11).trans rfl
      have hst := run_store_run (P := Try.prog) (o := 0) 29 (.agg #[.int .i64 c0, .int .i64 c1, .int .i64 (n : Int), .int .i64 c3, .int .i64 c4, .int .i64 c5, .int .i64 c6, .int .i64 c7, .slice none 0 0, .slice (some ⟨bl, 0, none⟩) n n, .slice none 0 0, .slice none 0 0]) [.int .i64 c0, .int .i64 c1, .int .i64 (n : Int), .int .i64 c3, .int .i64 c4, .int .i64 c5, .int .i64 c6, .int .i64 c7, .slice none 0 0, .slice (some ⟨bl, 0, none⟩) n n, .slice none 0 0, .slice none 0 0] v2 rfl (by kernel_rfl) (by simp) (by simp [Value.oneCell'])
      obtain ⟨cur', r1, _, r3⟩ := setCells_row [.int .i64 c0, .int .i64 c1, .int .i64 (n : Int), .int .i64 c3, .int .i64 c4, .int .i64 c5, .int .i64 c6, .int .i64 c7, .slice none 0 0, .slice (some ⟨bl, 0, none⟩) n n, .slice none 0 0, .slice none 0 0] 0 wr _ v2 (by simp)
      obtain rfl : cur' = #[.int .i64 c0, .int .i64 c1, .int .i64 (n : Int), .int .i64 c3, .int .i64 c4, .int .i64 c5, .int .i64 c6, .int .i64 c7, .slice none 0 0, .slice (some ⟨bl, 0, none⟩) n n, .slice none 0 0, .slice none 0 0] := by
        apply Array.toList_inj.1
        rw [r3]
        rfl
      have e4 := (setCells_far [.int .i64 c0, .int .i64 c1, .int .i64 (n : Int), .int .i64 c3, .int .i64 c4, .int .i64 c5, .int .i64 c6, .int .i64 c7, .slice none 0 0, .slice (some ⟨bl, 0, none⟩) n n, .slice none 0 0, .slice none 0 0] 0 (w := wr) bl (g := w.heap.size + 1) (blk_ne v4 v2 (by decide))).trans v4
      have e3 := below_setCells_ (g := w.heap.size + 1) (Nat.le_succ _) [.int .i64 c0, .int .i64 c1, .int .i64 (n : Int), .int .i64 c3, .int .i64 c4, .int .i64 c5, .int .i64 c6, .int .i64 c7, .slice none 0 0, .slice (some ⟨bl, 0, none⟩) n n, .slice none 0 0, .slice none 0 0] 0 v3
      have ST := Aside0.mk hst
      have R1 := Aside0.mk r1
      have E4 := Aside0.mk e4
      have E3 := Aside0.mk e3
      have OLD := Aside0.mk hold
      clear hst r1 r3 e4 e3 hold v1 v2 v3 v4 v5
      go_wp2_with (first | ((with_reducible refine gate_store (t := 29) (p := 2) rfl ?_); refine store_event (t := 29) (p := 2) (v := ?vo) (w1 := wr.setCells (w.heap.size + 1) 0 [.int .i64 c0, .int .i64 c1, .int .i64 (n : Int), .int .i64 c3, .int .i64 c4, .int .i64 c5, .int .i64 c6, .int .i64 c7, .slice none 0 0, .slice (some ⟨bl, 0, none⟩) n n, .slice none 0 0, .slice none 0 0]) ?hg ?ho ?hn ?hr ?_; (case ho => rfl); (case hg => rfl); (case hn => rfl); (case hr => simp [execOp, Act.eval, ST.out]); intro w9 hw; rw [← hw] at R1 E4 E3; clear hw))
      have hin : n = i := by omega
      refine bodyPost_ret (v := .agg #[.int .i64 c0, .int .i64 c1, .int .i64 (n : Int), .int .i64 c3, .int .i64 c4, .int .i64 c5, .int .i64 c6, .int .i64 c7, .slice none 0 0, .slice (some ⟨bl, 0, none⟩) n n, .slice none 0 0, .slice none 0 0]) (results_cell_row (fn := Try.f29) rfl _ _ (w.heap.size + 1) 29 _ (0, 0) _ rfl R1.out Try.underlying29 rfl (by kernel_rfl)) rfl ?_
      exact ⟨bl, rfl, lay, E4.out, h6, fun i2 h2 => (by obtain ⟨u, d, z1, z2⟩ := OLD.out i2 (by omega); exact ⟨⟨u, z1⟩, ⟨d, z2⟩⟩), E3.out⟩
set_option maxHeartbeats 8000000 in
set_option maxRecDepth 100000 in
def ckpt_Size.f (k : Nat) (a0_0 : Int) (a0_1 : Int) (a0_2 : Int) (a0_3 : Int) (a0_4 : Int) (a0_5 : Int) (a0_6 : Int) (a0_7 : Int) : Option (Int) := (ckpt_Config.f k a0_0 a0_1 a0_2 a0_3 a0_4 a0_5 a0_6 a0_7).bind fun t => if t = true then (if 0 ≤ a0_2 ∧ a0_2 ≤ 2 ∧ a0_5 ≤ 4 then some (wrap64 (0 + a0_3 * a0_0 + a0_2 * (2 * a0_0 + 4 * (a0_0 * a0_0) + a0_5 * a0_0 + (mx a0_5 1) * (2 * (a0_4 * a0_0))) + a0_0 + a0_3 * a0_0)) else none) else some 0
theorem ckpt_Size.mono : ∀ a0 a1 a2 a3 a4 a5 a6 a7 k, LeO (ckpt_Size.f k a0 a1 a2 a3 a4 a5 a6 a7) (ckpt_Size.f (k + 1) a0 a1 a2 a3 a4 a5 a6 a7) := by
  intro a0 a1 a2 a3 a4 a5 a6 a7 k
  unfold ckpt_Size.f
  exact LeO.bind (ckpt_Config.mono _ _ _ _ _ _ _ _ k) (fun _ => LeO.refl _)
set_option maxHeartbeats 8000000 in
set_option maxRecDepth 100000 in
theorem ckpt_Size.calls (k : Nat) (a0_0 : Int) (a0_1 : Int) (a0_2 : Int) (a0_3 : Int) (a0_4 : Int) (a0_5 : Int) (a0_6 : Int) (a0_7 : Int) (r : Int) (w : World) (h : ckpt_Size.f k a0_0 a0_1 a0_2 a0_3 a0_4 a0_5 a0_6 a0_7 = some r) :
    Calls Try.prog 11 #[.agg #[.int .i64 a0_0, .int .i64 a0_1, .int .i64 a0_2, .int .i64 a0_3, .int .i64 a0_4, .int .i64 a0_5, .int .i64 a0_6, .int .i64 a0_7]] w fun e w' => e = .returned (.int .i64 r) ∧ Below w.heap.size w w' := by
  have hu23 := Try.underlying23
  have hu29 := Try.underlying29
  have hmf : ∀ (fn : Fn) (first cap : Array Value) (w : World), (Instr.makeFunc fn first cap).run Try.prog w = .ok (.func fn first cap) w := fun _ _ _ _ => rfl
  unfold ckpt_Size.f at h
  obtain ⟨t, A0, h⟩ := Option.bind_eq_some_iff.mp h
  have A := Aside0.mk A0
  clear A0
  cases t with
  | false =>
    rw [if_neg (by decide)] at h
    obtain rfl := Option.some.inj h
    go_enter Try.func11, Try.ntmps11
    go_wp2_with (first | ((with_reducible refine gate_callee (f := 9) rfl ?_); refine goesL_ (some 6) rfl rfl Try.func9 (by kernel_rfl) rfl #[.agg #[.int .i64 a0_0, .int .i64 a0_1, .int .i64 a0_2, .int .i64 a0_3, .int .i64 a0_4, .int .i64 a0_5, .int .i64 a0_6, .int .i64 a0_7]] rfl (by (try simp only [List.map_toArray, List.map_cons, List.map_nil]); first | done | rfl) ?_; (with_reducible refine (ckpt_Config.calls k _ _ _ _ _ _ _ _ false _ A.out).mono ?_); rintro e w1 ⟨rfl, hb1⟩; refine ⟨_, rfl, ?_⟩; have Q0 := Aside0.mk (blk_below (blk_new w (.cells #[.int .i64 a0_0, .int .i64 a0_1, .int .i64 a0_2, .int .i64 a0_3, .int .i64 a0_4, .int .i64 a0_5, .int .i64 a0_6, .int .i64 a0_7] 23)) hb1); have B1 := Aside0.mk (below_step (below_alloc (Below.refl w.heap.size w) (.cells #[.int .i64 a0_0, .int .i64 a0_1, .int .i64 a0_2, .int .i64 a0_3, .int .i64 a0_4, .int .i64 a0_5, .int .i64 a0_6, .int .i64 a0_7] 23)) hb1); clear hb1))
    go_ret
    exact ⟨rfl, B1.out⟩
  | true =>
    rw [if_pos rfl] at h
    by_cases hc : 0 ≤ a0_2 ∧ a0_2 ≤ 2 ∧ a0_5 ≤ 4
    · rw [if_pos hc] at h
      obtain rfl := Option.some.inj h
      obtain ⟨hc1, hc2, hc3⟩ := hc
      obtain ⟨n, rfl⟩ := Int.eq_ofNat_of_zero_le hc1
      obtain ⟨k1, hk1⟩ : ∃ k1 : Nat, mx a0_5 1 = (k1 : Int) := by
        have : 0 ≤ mx a0_5 1 := by unfold mx; split <;> omega
        exact ⟨_, (Int.toNat_of_nonneg this).symm⟩
      have hk4 : k1 ≤ 4 := by
        have : mx a0_5 1 ≤ 4 := by unfold mx; split <;> omega
        omega
      go_enter Try.func11, Try.ntmps11
      go_upto_region 4 with (first | ((with_reducible refine gate_callee (f := 9) rfl ?_); refine goesL_ (some 6) rfl rfl Try.func9 (by kernel_rfl) rfl #[.agg #[.int .i64 a0_0, .int .i64 a0_1, .int .i64 (n : Int), .int .i64 a0_3, .int .i64 a0_4, .int .i64 a0_5, .int .i64 a0_6, .int .i64 a0_7]] rfl (by (try simp only [List.map_toArray, List.map_cons, List.map_nil]); first | done | rfl) ?_; (with_reducible refine (ckpt_Config.calls k _ _ _ _ _ _ _ _ true _ A.out).mono ?_); rintro e w1 ⟨rfl, hb1⟩; refine ⟨_, rfl, ?_⟩; have Q0 := Aside0.mk (blk_below (blk_new w (.cells #[.int .i64 a0_0, .int .i64 a0_1, .int .i64 (n : Int), .int .i64 a0_3, .int .i64 a0_4, .int .i64 a0_5, .int .i64 a0_6, .int .i64 a0_7] 23)) hb1); have B1 := Aside0.mk (below_step (below_alloc (Below.refl w.heap.size w) (.cells #[.int .i64 a0_0, .int .i64 a0_1, .int .i64 (n : Int), .int .i64 a0_3, .int .i64 a0_4, .int .i64 a0_5, .int .i64 a0_6, .int .i64 a0_7] 23)) hb1); clear hb1))
      have g2 := blk_new w1 (.cells #[.int .i64 0] 3)
      have q2 := blk_alloc Q0.out (.cells #[.int .i64 0] 3)
      have b2 := below_alloc B1.out (.cells #[.int .i64 0] 3)
      have hge := below_size B1.out
      generalize w1.heap.size = g at *
      generalize w1.alloc (.cells #[.int .i64 0] 3) = w2 at *
      have hx0 : w2.cell? ⟨w.heap.size, 0, none⟩ = some (.int .i64 a0_0) := (blk_cell q2 0).trans rfl
      have hx1 : w2.cell? ⟨w.heap.size, 1, none⟩ = some (.int .i64 a0_1) := (blk_cell q2 1).trans rfl
      have hx2 : w2.cell? ⟨w.heap.size, 2, none⟩ = some (.int .i64 (n : Int)) := (blk_cell q2 2).trans rfl
      have hx3 : w2.cell? ⟨w.heap.size, 3, none⟩ = some (.int .i64 a0_3) := (blk_cell q2 3).trans rfl
      have hx4 : w2.cell? ⟨w.heap.size, 4, none⟩ = some (.int .i64 a0_4) := (blk_cell q2 4).trans rfl
      have hx5 : w2.cell? ⟨w.heap.size, 5, none⟩ = some (.int .i64 a0_5) := (blk_cell q2 5).trans rfl
      have hx6 : w2.cell? ⟨w.heap.size, 6, none⟩ = some (.int .i64 a0_6) := (blk_cell q2 6).trans rfl
      have hx7 : w2.cell? ⟨w.heap.size, 7, none⟩ = some (.int .i64 a0_7) := (blk_cell q2 7).trans rfl
      have G2 := Aside0.mk g2
      have B2 := Aside0.mk b2
      clear g2 b2 q2 Q0 B1
      go_upto_region 5 with (first | ((with_reducible refine gate_callee (f := 29) rfl ?_); refine goesL_ (some 9) rfl rfl Try.func29 (by kernel_rfl) rfl #[.agg #[.int .i64 a0_0, .int .i64 a0_1, .int .i64 (n : Int), .int .i64 a0_3, .int .i64 a0_4, .int .i64 a0_5, .int .i64 a0_6, .int .i64 a0_7]] rfl (by (try simp only [List.map_toArray, List.map_cons, List.map_nil]); first | done | rfl) ?_; (with_reducible refine (ckpt_empty.calls n k1 a0_0 a0_1 a0_3 a0_4 a0_5 a0_6 a0_7 _ (by omega) hk4 hk1).mono ?_); rintro e w3 ⟨bl, lay, rfl, hl, hbl, hlay, hb3⟩; refine ⟨_, rfl, ?_⟩; have G3 := Aside0.mk (blk_below G2.out hb3); have B3 := Aside0.mk (below_step B2.out hb3); have L3 := Aside0.mk hl; have LAY := Aside0.mk hlay; clear hb3 hl hlay hbl))
      have g4 := blk_alloc G3.out (.cells #[.int .i64 a0_0, .int .i64 a0_1, .int .i64 (n : Int), .int .i64 a0_3, .int .i64 a0_4, .int .i64 a0_5, .int .i64 a0_6, .int .i64 a0_7, .slice none 0 0, .slice (some ⟨bl, 0, none⟩) n n, .slice none 0 0, .slice none 0 0] 29)
      have l4 := blk_alloc L3.out (.cells #[.int .i64 a0_0, .int .i64 a0_1, .int .i64 (n : Int), .int .i64 a0_3, .int .i64 a0_4, .int .i64 a0_5, .int .i64 a0_6, .int .i64 a0_7, .slice none 0 0, .slice (some ⟨bl, 0, none⟩) n n, .slice none 0 0, .slice none 0 0] 29)
      have m4 := blk_new w3 (.cells #[.int .i64 a0_0, .int .i64 a0_1, .int .i64 (n : Int), .int .i64 a0_3, .int .i64 a0_4, .int .i64 a0_5, .int .i64 a0_6, .int .i64 a0_7, .slice none 0 0, .slice (some ⟨bl, 0, none⟩) n n, .slice none 0 0, .slice none 0 0] 29)
      have b4 := below_alloc B3.out (.cells #[.int .i64 a0_0, .int .i64 a0_1, .int .i64 (n : Int), .int .i64 a0_3, .int .i64 a0_4, .int .i64 a0_5, .int .i64 a0_6, .int .i64 a0_7, .slice none 0 0, .slice (some ⟨bl, 0, none⟩) n n, .slice none 0 0, .slice none 0 0] 29)
      generalize w3.heap.size = bm at *
      generalize w3.alloc (.cells #[.int .i64 a0_0, .int .i64 a0_1, .int .i64 (n : Int), .int .i64 a0_3, .int .i64 a0_4, .int .i64 a0_5, .int .i64 a0_6, .int .i64 a0_7, .slice none 0 0, .slice (some ⟨bl, 0, none⟩) n n, .slice none 0 0, .slice none 0 0] 29) = w4 at *
      have G4 := Aside0.mk g4
      have L4 := Aside0.mk l4
      have M4 := Aside0.mk m4
      have B4 := Aside0.mk b4
      clear g4 l4 m4 b4 G3 L3 B3
      go_wp2_with (first | ((with_reducible refine gate_callee (f := 30) rfl ?_); refine goesL_ (some 11) rfl rfl Try.func30 (by kernel_rfl) rfl #[.pointer (some ⟨bm, 0, none⟩), .func (.func 31) #[] #[.pointer (some ⟨g, 0, none⟩)]] rfl (by (try simp only [List.map_toArray, List.map_cons, List.map_nil]); first | done | rfl) ?_; refine (ckpt_visit.calls w.heap.size g bm bl n k1 a0_0 a0_1 (n : Int) a0_3 a0_4 a0_5 a0_6 a0_7 lay w 0 w4 (by omega) hk4 LAY.out (by rw [show wrap64 0 = 0 by (unfold wrap64; omega)]; exact G4.out) M4.out L4.out B4.out hge).mono ?_; rintro e w5 ⟨⟨u, rfl⟩, hg5, hb5⟩; refine ⟨_, rfl, ?_⟩; have B5 := Aside0.mk hb5; rw [← hk1] at hg5; have hx := (blk_cell hg5 0).trans rfl; clear hb5 hg5))
      go_ret
      exact ⟨rfl, B5.out⟩
    · rw [if_neg hc] at h
      exact absurd h (by simp)

/-! ### aviaryref09_layer: function 32 -/
def aviaryref09_layer.f (a0_0 : Int) (a0_1 : Int) (a0_2 : Int) (a0_3 : Int) (a0_4 : Int) (a0_5 : Int) (a0_6 : Int) (a0_7 : Int) : Option (Int) := some (wrap64 ((wrap64 ((wrap64 ((wrap64 (2 * a0_0)) + (wrap64 ((wrap64 (4 * a0_0)) * a0_0)))) + (wrap64 (a0_5 * a0_0)))) + (wrap64 ((wrap64 ((wrap64 ((mx 1 a0_5) * 2)) * a0_4)) * a0_0))))
set_option maxHeartbeats 8000000 in
set_option maxRecDepth 100000 in
theorem aviaryref09_layer.calls (a0_0 : Int) (a0_1 : Int) (a0_2 : Int) (a0_3 : Int) (a0_4 : Int) (a0_5 : Int) (a0_6 : Int) (a0_7 : Int) (r : Int) (w : World) (h : aviaryref09_layer.f a0_0 a0_1 a0_2 a0_3 a0_4 a0_5 a0_6 a0_7 = some r) :
    Calls Try.prog 32 #[.agg #[.int .i64 a0_0, .int .i64 a0_1, .int .i64 a0_2, .int .i64 a0_3, .int .i64 a0_4, .int .i64 a0_5, .int .i64 a0_6, .int .i64 a0_7]] w fun e w' => e = .returned (.int .i64 r) ∧ Below w.heap.size w w' := by
  have hu23 := Try.underlying23
  have HB := Aside0.mk (Below.refl w.heap.size w)
  have H : (some (wrap64 ((wrap64 ((wrap64 ((wrap64 (2 * a0_0)) + (wrap64 ((wrap64 (4 * a0_0)) * a0_0)))) + (wrap64 (a0_5 * a0_0)))) + (wrap64 ((wrap64 ((wrap64 ((mx 1 a0_5) * 2)) * a0_4)) * a0_0))))) = some r := h
  clear h
  obtain ⟨ji2, hji2⟩ : ∃ j_ : Int, (mx 1 a0_5) = j_ := ⟨_, rfl⟩
  replace H : (some (wrap64 ((wrap64 ((wrap64 ((wrap64 (2 * a0_0)) + (wrap64 ((wrap64 (4 * a0_0)) * a0_0)))) + (wrap64 (a0_5 * a0_0)))) + (wrap64 ((wrap64 ((wrap64 ((ji2) * 2)) * a0_4)) * a0_0))))) = some r := by first | (rw [hji2] at H; exact H) | (simp only [hji2] at H ⊢; exact H)
  (try (have hji2l : 1 ≤ ji2 := by (rw [← hji2]; unfold mx; (repeat' split) <;> omega)))
  (try (have hji2m : 0 ≤ ji2 := by omega))
  have hji2_ : (if 1 < a0_5 then a0_5 else 1) = ji2 := hji2
  obtain rfl := Option.some.inj H
  go_enter Try.func32, Try.ntmps32
  go_wp2_with (first | ((with_reducible refine gate_dst (N := 1) rfl ?_); refine box_event ?hg (N := 1) ?hd (cs := #[.int .i64 a0_0, .int .i64 a0_1, .int .i64 a0_2, .int .i64 a0_3, .int .i64 a0_4, .int .i64 a0_5, .int .i64 a0_6, .int .i64 a0_7]) (t := 23) ?hr ?_; (case hd => rfl); (case hg => rfl); (case hr => first | (go_simp; done) | (go_simp; rfl)); intro gb137 hg w3 hbox hb; have n0_ := Aside0.mk (below_step (by repeat (first | (with_reducible first | exact HB.out | apply below_alloc | apply pw_below_drewN | apply below_drew1) | exact HB.out)) hb); have n1_ := Aside0.mk (hbox); have n2_ := Aside0.mk ((by rw [hg]; exact (below_size (by repeat (first | (with_reducible first | exact HB.out | apply below_alloc | apply pw_below_drewN | apply below_drew1) | exact HB.out))) : w.heap.size ≤ gb137)); have n3_ := Aside0.mk ((by rw [hg]; exact (below_size (by repeat (first | (with_reducible first | exact HB.out | apply below_alloc | apply pw_below_drewN | apply below_drew1) | exact HB.out))) : w.heap.size ≤ gb137)); clear HB; have HB := n0_; have BK137 := n1_; have GW137 := n2_; have GE137 := n3_; clear n0_ n1_ n2_ n3_; clear hb hbox hg; have hcz4_0 : w3.cell? ⟨gb137, 0, none⟩ = some (.int .i64 a0_0) := (blk_cell BK137.out 0).trans rfl; have hcz4_1 : w3.cell? ⟨gb137, 1, none⟩ = some (.int .i64 a0_1) := (blk_cell BK137.out 1).trans rfl; have hcz4_2 : w3.cell? ⟨gb137, 2, none⟩ = some (.int .i64 a0_2) := (blk_cell BK137.out 2).trans rfl; have hcz4_3 : w3.cell? ⟨gb137, 3, none⟩ = some (.int .i64 a0_3) := (blk_cell BK137.out 3).trans rfl; have hcz4_4 : w3.cell? ⟨gb137, 4, none⟩ = some (.int .i64 a0_4) := (blk_cell BK137.out 4).trans rfl; have hcz4_5 : w3.cell? ⟨gb137, 5, none⟩ = some (.int .i64 a0_5) := (blk_cell BK137.out 5).trans rfl; have hcz4_6 : w3.cell? ⟨gb137, 6, none⟩ = some (.int .i64 a0_6) := (blk_cell BK137.out 6).trans rfl; have hcz4_7 : w3.cell? ⟨gb137, 7, none⟩ = some (.int .i64 a0_7) := (blk_cell BK137.out 7).trans rfl; have hfz4_0 := blk_frozen BK137.out 0; have hfz4_1 := blk_frozen BK137.out 1; have hfz4_2 := blk_frozen BK137.out 2; have hfz4_3 := blk_frozen BK137.out 3; have hfz4_4 := blk_frozen BK137.out 4; have hfz4_5 := blk_frozen BK137.out 5; have hfz4_6 := blk_frozen BK137.out 6; have hfz4_7 := blk_frozen BK137.out 7))
  go_ret
  exact ⟨by first | rfl | (simp [errW_none, errW_some] <;> rfl) | (simp only [← hji2]; first | rfl | (simp [errW_none, errW_some] <;> rfl)) | (simp [*, errW_none, errW_some] <;> rfl), by repeat (first | (with_reducible first | exact HB.out | apply below_alloc | apply pw_below_drewN | apply below_drew1 | refine below_set ?_ GE137.out) | exact HB.out)⟩

end Go.Proofs.Ytdlinhegmplgiaa.PCkptConfigs
