/- A text of the session: functions of the program and their walks, laid by a program of its own (wip/tools/mkprint.py) over the translation. No condition. -/
import Derived.Test.YtekaiebfgcjddaaPGraftBackx0
import Derived.Test.YtekaiebfgcjddaaPGraftBackx3
namespace Go.Proofs.Ytekaiebfgcjddaa.PGraftBack
open Go.RowKit Go.Proofs.YtekaiebfgcjddaaW.PrintWords Go.Proofs.YtekaiebfgcjddaaW.PrintLast Go.Proofs.YtekaiebfgcjddaaW.PrintMore
attribute [local go_sem] max2_int min2_int max_two min_two max_three min_three max_four min_four   -- for this text's walks alone
set_option linter.unusedVariables false
set_option linter.unusedSimpArgs false

/-! ### aviarylaw10_Own: function 16 -/
/-! ### 'append([]T{}, xs...)': a copy; nothing that was there changes -/
theorem reps_int (k : IntKind) (w : World) (base : Nat) (ok : Nat → Prop) : ∀ ys : List Int, Reps ((Kd.int k).M w base ok) 1 ys (nums k ys) := by
  intro ys
  refine ⟨by simp [nums], fun j p hj => ?_⟩
  show ((nums k ys).drop (j * 1)).take 1 = [.int k p]
  rw [Nat.mul_one, List.take_one, List.head?_drop, nums, List.getElem?_map, hj]
  rfl
theorem copy_run {P : Program} {w : World} (t ty e : TypeId) (k : IntKind) (bytes : Nat) (ht : P.underlying t = some (.slice e)) (hinfo : (P.info? e).map (fun i => (i.zero, i.size, i.bytes)) = some (some (.int k 0), 1, bytes)) (hb0 : 0 < bytes)
    (g : Nat) (hg : w.heap[g]? = some (.cells #[] e (0, 0))) (ys : List Int) (A : Option Addr) (m c : Nat) (HR : (Kd.int k).C w A m ys) (hl : m * bytes ≤ 140737488355328) {base : Nat} (hbg : base ≤ g) :
    ∃ v w1, (Builtin.append_ #[t, t] ty #[.slice (some ⟨g, 0, none⟩) 0 0, .slice A m c]).run P w = .ok v w1 ∧ (Kd.int k).R e w1 base (fun z => z = g ∨ w.heap.size ≤ z) v ys ∧ Below w.heap.size w w1 := by
  obtain ⟨i0, hi, hzz⟩ := Option.map_eq_some_iff.1 hinfo
  simp only [Prod.mk.injEq] at hzz
  obtain ⟨hz0, hz1, hz2⟩ := hzz
  have hm : ys.length = m := HR.1
  have hsmall : m ≤ 140737488355328 := Nat.le_trans (Nat.le_mul_of_pos_right _ hb0) hl
  rcases Nat.eq_zero_or_pos m with h0 | h0
  · subst h0
    obtain rfl : ys = [] := List.eq_nil_of_length_eq_zero hm
    refine ⟨.slice (some ⟨g, 0, none⟩) 0 0, w, ?_, ⟨fun z hz => .inl (by simpa [Value.ownBlock] using hz.symm), [], ⟨rfl, .inr ⟨g, 0, #[], rfl, hbg, hg, Nat.le_refl _, by decide, rfl, rfl⟩⟩, Reps.none _ _⟩, Below.refl _ _⟩
    cases A with
    | none => simp [Builtin.append_, run_underlying ht, sizeOf, typeInfo, hi, Builtin.lenOf, Builtin.firstCells, storeCells]
    | some ad => simp [Builtin.append_, run_underlying ht, sizeOf, typeInfo, hi, Builtin.lenOf, Builtin.firstCells, loadCells, loadCellsFrom, storeCells]
  · obtain ⟨ad, hA, _⟩ := HR.2.2 h0
    subst hA
    have hreads := Kd.reads_of_C (enc := Value.int k) (d := (0 : Int)) (h1 := fun _ => rfl) HR
    have hnews : ∀ j u, (nums k ys)[j]? = some u → w.cell? (ad.add j) = some u := by
      intro j u hj
      obtain ⟨ad', e', hc⟩ := hreads.2.2 h0
      injection e' with e'
      subst e'
      rw [nums, List.getElem?_map] at hj
      obtain ⟨x, hx, rfl⟩ := Option.map_eq_some_iff.1 hj
      have hjl : j < m := by rw [← hm]; exact (List.getElem?_eq_some_iff.1 hx).1
      have := hc j hjl
      rw [List.getD_eq_getElem?_getD, hx] at this
      exact this
    have hr := run_append_grow (P := P) w t ty e i0 (.int k 0) ht hi hz0 ⟨g, 0, none⟩ 0 0 [] (by simp) (by simp) ad m c (nums k ys) (by rw [hz1]; simp [nums, hm]) hnews (by omega) (by omega) (growslice_fits (by omega) (by rw [hz2, Nat.zero_add]; exact hl))
    have hge := grownCap_ge w (0 + m) 0 e
    have hcm := grownCap_le_maxLen w (0 + m) 0 e (by simp only [maxLen]; omega)
    have hb' : Below w.heap.size w (w.drew.alloc (.cells (([] : List Value).toArray ++ (nums k ys).toArray ++ Builtin.zeroCells (Value.int k 0).cells (grownCap w (0 + m) 0 e - (0 + m))) e)) := below_alloc (below_drew1 (Below.refl _ _)) _
    rw [Nat.zero_add] at hr hge hcm hb'
    have hz : (Value.int k 0).cells.size = 1 := rfl
    have hnl : (nums k ys).length = m := by simp [nums, hm]
    refine ⟨_, _, hr, ⟨fun z hz => .inr (by have h_ : w.heap.size = z := by simpa [Value.ownBlock] using hz
                                            omega), nums k ys, ⟨by rw [hnl, hm]; simp [Kd.int, Kd.scalar], .inr ⟨w.heap.size, _, _, by rw [hm], Nat.le_trans hbg (Nat.le_of_lt (blk_lt hg)), heap_alloc_new w.drew _, by rw [hm]; exact hge, hcm, ?_, ?_⟩⟩, reps_int k _ _ _ ys⟩, hb'⟩
    · simp only [Array.size_append, List.size_toArray, size_zeroCells, hz, hnl, List.length_nil]
      show 0 + m + _ = _ * 1
      omega
    · simp only [Array.toList_append, List.nil_append, hm]
      show List.take (m * 1) _ = _
      rw [Nat.mul_one, ← hnl]
      exact List.take_left
theorem copy_step {P : Program} {ops : Array Oper} {o : Oper} {a : Act} {Q : Exit → Act → World → Prop} {Kc : Act → World → Prop} {W : World} (hw : Region.wanted o (yielded ops a.tmps) = true) (s x : Operand) (t e : TypeId) (k : IntKind) (bytes : Nat)
    (ho : o.op = .call { callee := .builtin .append, args := #[s, x], argTypes := #[t, t] }) (ht : P.underlying t = some (.slice e)) (hinfo : (P.info? e).map (fun i => (i.zero, i.size, i.bytes)) = some (some (.int k 0), 1, bytes)) (hb0 : 0 < bytes)
    (g : Nat) (ys : List Int) (A : Option Addr) (m c : Nat) (hs : a.eval s = .slice (some ⟨g, 0, none⟩) 0 0) (hx : a.eval x = .slice A m c) (hg : W.heap[g]? = some (.cells #[] e (0, 0))) (HR : (Kd.int k).C W A m ys) (hl : m * bytes ≤ 140737488355328) {base : Nat} (hbg : base ≤ g)
    (h : ∀ v w1, (Kd.int k).R e w1 base (fun z => z = g ∨ W.heap.size ≤ z) v ys → Below W.heap.size W w1 → Kc (a.put o.dst v) w1) :
    if Region.wanted o (yielded ops a.tmps) = true then Oper.wp P o a W Kc Q else Kc (a.put o.dst undef) W := by
  obtain ⟨v, w1, hr, hR, hb⟩ := copy_run (P := P) (w := W) t o.type e k bytes ht hinfo hb0 g hg ys A m c HR hl hbg
  rw [if_pos hw]
  unfold Oper.wp execOp
  simp only [ho, resolve, invoke, builtin, Sem.run_bind, Sem.run_pure, Result.andThen_ok, List.map_toArray, List.map_cons, List.map_nil, hs, hx, hr]
  exact h v w1 hR hb
/-- Two boxes of the call's own, and all else below as it was. -/
structure OwTwo (w : World) (g1 g2 t1 t2 : Nat) (c1 c2 : Array Value) (W : World) : Prop where
  b1 : W.heap[g1]? = some (.cells c1 t1 (0, 0))
  b2 : W.heap[g2]? = some (.cells c2 t2 (0, 0))
  bl : Below w.heap.size w W
theorem OwTwo.below {w W W1 : World} {g1 g2 t1 t2 : Nat} {c1 c2 : Array Value} (h : OwTwo w g1 g2 t1 t2 c1 c2 W) (hb : Below W.heap.size W W1) : OwTwo w g1 g2 t1 t2 c1 c2 W1 := ⟨blk_below h.b1 hb, blk_below h.b2 hb, below_step h.bl hb⟩
theorem OwTwo.drewN {w W : World} {g1 g2 t1 t2 : Nat} {c1 c2 : Array Value} (h : OwTwo w g1 g2 t1 t2 c1 c2 W) (n : Nat) : OwTwo w g1 g2 t1 t2 c1 c2 (W.drewN n) := ⟨blk_drewN h.b1 n, blk_drewN h.b2 n, pw_below_drewN h.bl n⟩
theorem OwTwo.start (w : World) (t1 t2 : Nat) (c1 c2 : Array Value) : OwTwo w w.heap.size (w.heap.size + 1) t1 t2 c1 c2 ((w.alloc (.cells c1 t1)).alloc (.cells c2 t2)) := by
  refine ⟨blk_alloc (blk_new w _) _, ?_, below_alloc (below_alloc (Below.refl _ _) _) _⟩
  have h := blk_new (w.alloc (.cells c1 t1)) (.cells c2 t2)
  simp only [World.size_alloc] at h
  exact h
def aviarylaw10_Own.T6 : Bool × List (List Nat × List Nat) := (true, [([], []), ([], []), ([], []), ([2], [2]), ([1, 3], [1, 3]), ([], []), ([], []), ([6], [6]), ([5, 7, 4], [5, 7]), ([], []), ([], []), ([10], [10]), ([9, 11, 8], [9, 11]), ([], []), ([], []), ([14], [14]), ([13, 15, 12], [13, 15]), ([4, 8, 12, 16], [4, 8, 12, 16]), ([17], [17]), ([0, 18, 16], [0, 18]), ([19, 19, 0, 1, 2, 3, 4, 5, 6, 7, 8, 9, 10, 11, 12, 13, 14, 15, 16, 17, 18, 19], [0, 19])])
def aviarylaw10_Own.B6 : List Nat := [0, 0, 0, 4, 14, 0, 0, 64, 254, 0, 0, 1024, 4094, 0, 0, 16384, 65534, 131070, 262142, 524287, 1048575]
theorem aviarylaw10_Own.tab6 : rtab .any (opsOf Try.f16 6) = aviarylaw10_Own.T6 := by kernel_rfl
theorem aviarylaw10_Own.bits6 : waitsOk aviarylaw10_Own.T6.2 aviarylaw10_Own.B6 = true := by kernel_rfl
/-- What is known of the world while an element is copied. -/
structure OwB (w : World) (a0 a1 : Int) (A : Option Addr) (n c g5 : Nat) (c5 : Array Value) (W : World) : Prop where
  box : W.heap[w.heap.size]? = some (.cells #[.int .i64 a0, .int .i64 a1, .slice A n c] 27 (0, 0))
  res : W.heap[w.heap.size + 1]? = some (.cells #[.int .i64 0, .int .i64 0, .slice none 0 0] 27 (0, 0))
  x : W.heap[g5]? = some (.cells c5 59 (0, 0))
  b : Below w.heap.size w W
  ord : w.heap.size + 1 < g5
theorem OwB.below {w W W1 : World} {a0 a1 : Int} {A : Option Addr} {n c g5 : Nat} {c5 : Array Value} (h : OwB w a0 a1 A n c g5 c5 W) (hb : Below W.heap.size W W1) : OwB w a0 a1 A n c g5 c5 W1 := ⟨blk_below h.box hb, blk_below h.res hb, blk_below h.x hb, below_step h.b hb, h.ord⟩
theorem OwB.grown {w W W1 : World} {a0 a1 : Int} {A : Option Addr} {n c g5 : Nat} {c5 : Array Value} {row : Option Nat} (h : OwB w a0 a1 A n c g5 c5 W) (hb : Below w.heap.size w W1) (hg : W.grownBy W1 row) (hr : ∀ k, row = some k → w.heap.size + 1 < k ∧ k < g5) : OwB w a0 a1 A n c g5 c5 W1 :=
  ⟨blk_grown h.box hg (fun e => absurd (hr _ e.symm).1 (by omega)), blk_grown h.res hg (fun e => absurd (hr _ e.symm).1 (by omega)), blk_grown h.x hg (fun e => absurd (hr _ e.symm).2 (by omega)), hb, h.ord⟩
theorem OwB.two {w W : World} {a0 a1 : Int} {A : Option Addr} {n c g5 : Nat} {c5 : Array Value} (h : OwB w a0 a1 A n c g5 c5 W) : OwTwo w w.heap.size (w.heap.size + 1) 27 27 #[.int .i64 a0, .int .i64 a1, .slice A n c] #[.int .i64 0, .int .i64 0, .slice none 0 0] W := ⟨h.box, h.res, h.b⟩
theorem OwB.start {w W : World} {a0 a1 : Int} {A : Option Addr} {n c : Nat} {c5 : Array Value} (h : OwTwo w w.heap.size (w.heap.size + 1) 27 27 #[.int .i64 a0, .int .i64 a1, .slice A n c] #[.int .i64 0, .int .i64 0, .slice none 0 0] W) : OwB w a0 a1 A n c W.heap.size c5 (W.alloc (.cells c5 59)).drew :=
  ⟨blk_alloc h.b1 _, blk_alloc h.b2 _, blk_new W _, below_drew1 (below_alloc h.bl _), blk_lt h.b2⟩
theorem mem_T59 {l : List S59} {i : Nat} (h : i < l.length) : rd_T59 l (i : Int) ∈ l := by
  unfold rd_T59
  rw [Int.toNat_natCast, List.getD_eq_getElem?_getD, List.getElem?_eq_getElem h]
  exact List.getElem_mem h
theorem take_T59 {l : List S59} {i : Nat} (h : i < l.length) : l.take (i + 1) = l.take i ++ [rd_T59 l (i : Int)] := by
  unfold rd_T59
  rw [Int.toNat_natCast, List.getD_eq_getElem?_getD, List.getElem?_eq_getElem h, List.take_succ_eq_append_getElem h]
  rfl
def aviarylaw10_Own.f (a0_0 : Int) (a0_1 : Int) (l0_2 : List (S59)) : Option (Int × Int × (List (S59))) := if l0_2.length ≤ 20 ∧ (∀ g ∈ l0_2, g.f0.length < 140737488355328 ∧ g.f1.length < 140737488355328 ∧ g.f2.length < 140737488355328 ∧ g.f3.length < 140737488355328) then some (a0_0, a0_1, l0_2) else none
set_option maxHeartbeats 8000000 in
set_option maxRecDepth 100000 in
theorem aviarylaw10_Own.calls (a0_0 : Int) (a0_1 : Int) (A0_2 : Option Addr) (c0_2 : Nat) (l0_2 : List (S59)) (r1 : Int) (r2 : Int) (r3 : List (S59)) (w : World) (hr0_2 : Kd.C k59 w A0_2 l0_2.length l0_2) (hc0_2 : l0_2.length ≤ c0_2) (h : aviarylaw10_Own.f a0_0 a0_1 l0_2 = some (r1, r2, r3)) :
    Calls Try.prog 16 #[.agg #[.int .i64 a0_0, .int .i64 a0_1, .slice A0_2 l0_2.length c0_2]] w fun e w' => ∃ v2_ : Value, e = .returned (.agg #[.int .i64 r1, .int .i64 r2, v2_]) ∧ Kd.S k59 59 w' w.heap.size (fun _ => True) v2_ r3 ∧ Below w.heap.size w w' := by
  have hu27 := Try.underlying27
  have hu25 := Try.underlying25
  have hu59 := Try.underlying59
  unfold aviarylaw10_Own.f at h
  by_cases hcond : l0_2.length ≤ 20 ∧ (∀ g ∈ l0_2, g.f0.length < 140737488355328 ∧ g.f1.length < 140737488355328 ∧ g.f2.length < 140737488355328 ∧ g.f3.length < 140737488355328)
  · rw [if_pos hcond] at h
    simp only [Option.some.injEq, Prod.mk.injEq] at h
    obtain ⟨rfl, rfl, rfl⟩ := h
    have HCO := Aside0.mk hcond
    clear hcond
    have HR := Aside0.mk hr0_2
    clear hr0_2 hc0_2
    have HI := Aside0.mk (OwTwo.start w 27 27 #[.int .i64 a0_0, .int .i64 a0_1, .slice A0_2 l0_2.length c0_2] #[.int .i64 0, .int .i64 0, .slice none 0 0])
    have HT_ := Aside0.mk aviarylaw10_Own.tab6
    have HW_ := Aside0.mk aviarylaw10_Own.bits6
    go_enter Try.func16, Try.ntmps16
    go_wp2
    go_loopg [3, 4] l0_2.length (fun kq v3 v4 wr => ∃ (i : Nat) (A3 : Option Addr) (n3 c3 : Nat), v4 = .int .i64 (i : Int) ∧ v3 = .slice A3 n3 c3 ∧ i + kq = l0_2.length ∧ Aside0 (OwTwo w w.heap.size (w.heap.size + 1) 27 27 #[.int .i64 a0_0, .int .i64 a0_1, .slice A0_2 l0_2.length c0_2] #[.int .i64 0, .int .i64 0, .slice none 0 0] wr) ∧ Aside0 (Kd.S k59 59 wr w.heap.size (fun k => w.heap.size + 1 < k) (.slice A3 n3 c3) (l0_2.take i)))
    case atStart => exact ⟨0, none, 0, 0, rfl, rfl, by omega, HI, ⟨Kd.S_nil _ _ _ _ _⟩⟩
    case round =>
      clear HI
      obtain ⟨i, A3, n3, c3, rfl, rfl, hik, HI, HS0⟩ := hrel
      have ha2 : wr.cell? ⟨w.heap.size, 2, none⟩ = some (.slice A0_2 l0_2.length c0_2) := (blk_cell HI.out.b1 2).trans rfl
      have hlen : (l0_2.length : Int) ≤ 9223372036854775807 := by have := HCO.out.1; omega
      by_cases ci : i < l0_2.length
      · have cb : decide ((i : Int) < (l0_2.length : Int)) = true := decide_eq_true (by omega)
        have cp := eq_true (show 0 ≤ (i : Int) by omega)
        have cq := eq_true (show (i : Int) < (l0_2.length : Int) by omega)
        have HN := Aside0.mk (take_T59 ci)
        have HLN := Aside0.mk (HCO.out.2 _ (mem_T59 ci))
        obtain ⟨ad, X0, c0, X1, c1, X2, c2, X3, c3', e_, hx0, hx1, hx2, hx3, _, hy0, _, hy1, _, hy2, _, hy3⟩ := at_T59 HR.out (i : Int) (by omega) (by omega)
        subst e_
        rw [Int.toNat_natCast] at hx0 hx1 hx2 hx3
        replace hx0 := (HI.out.bl.cell (World.block_lt_of_cell? w _ hx0)).trans hx0
        replace hx1 := (HI.out.bl.cell (World.block_lt_of_cell? w _ hx1)).trans hx1
        replace hx2 := (HI.out.bl.cell (World.block_lt_of_cell? w _ hx2)).trans hx2
        replace hx3 := (HI.out.bl.cell (World.block_lt_of_cell? w _ hx3)).trans hx3
        generalize rd_T59 l0_2 (i : Int) = G at *
        have HX0 := Aside0.mk hy0
        have HX1 := Aside0.mk hy1
        have HX2 := Aside0.mk hy2
        have HX3 := Aside0.mk hy3
        clear hy0 hy1 hy2 hy3
        have HXS : Aside0 ((l0_2.take i).length ≤ 20) := ⟨by have := HCO.out.1; rw [List.length_take]; omega⟩
        go_wp2
        obtain ⟨g5, hg5⟩ : ∃ g5, g5 = wr.heap.size := ⟨_, rfl⟩
        have HB := Aside0.mk (OwB.start (c5 := #[.slice X0 G.f0.length c0, .slice X1 G.f1.length c1, .slice X2 G.f2.length c2, .slice X3 G.f3.length c3']) HI.out)
        have HS1 : Aside0 (Kd.S k59 59 (wr.alloc (.cells #[.slice X0 G.f0.length c0, .slice X1 G.f1.length c1, .slice X2 G.f2.length c2, .slice X3 G.f3.length c3'] 59)).drew w.heap.size (fun k => w.heap.size + 1 < k ∧ k < wr.heap.size) (.slice A3 n3 c3) (l0_2.take i)) := ⟨Kd.S_mono (Kd.S_below (Kd.S_bound HS0.out) (below_drew1 (below_alloc (Below.refl _ _) _))) (fun k hk => ⟨hk.1, hk.2.2.1⟩)⟩
        clear HS0
        have HS := HS1
        clear HS1 HI
        rw [← hg5] at HB HS ⊢
        generalize l0_2.take i = xs at *
        have HG1 : Aside0 (w.heap.size + 1 < g5) := ⟨HB.out.ord⟩
        have HG : Aside0 (w.heap.size < g5) := ⟨by have := HB.out.ord; omega⟩
        clear hg5 hx0 hx1 hx2 hx3 ha2
        refine start_ (n := 21) (S := fun w' => True) (ds := []) #[false, false, false, false, false, false, false, false, false, false, false, false, false, false, false, false, false, false, false, false, false] (by kernel_rfl) rfl rfl trivial (fun hHeld => ?_)
        refine pure_ (i := 0) (N := some 18) (v := ?_) (a' := ?_) #[true, false, false, false, false, false, false, false, false, false, false, false, false, false, false, false, false, false, false, false, false] rfl rfl (by kernel_rfl) (fun _ _ _ h => h) (Or.inl ⟨by rfl, ?_⟩) ?_ ?_
        rotate_left
        · intro w'
          go_simp
          with_reducible rfl
        rotate_left
        · simp only [Act.put, List.setIfInBounds_toArray, List.set_cons_zero, List.set_cons_succ, i64_w, i32_w]
          rfl
        refine pure_ (i := 2) (N := some 20) (v := ?_) (a' := ?_) #[true, false, true, false, false, false, false, false, false, false, false, false, false, false, false, false, false, false, false, false, false] rfl rfl (by kernel_rfl) (fun _ _ _ h => h) (Or.inl ⟨by rfl, ?_⟩) ?_ ?_
        rotate_left
        · intro w'
          go_simp
          with_reducible rfl
        rotate_left
        · simp only [Act.put, List.setIfInBounds_toArray, List.set_cons_zero, List.set_cons_succ, i64_w, i32_w]
          rfl
        refine pure_ (i := 6) (N := some 24) (v := ?_) (a' := ?_) #[true, false, true, false, false, false, true, false, false, false, false, false, false, false, false, false, false, false, false, false, false] rfl rfl (by kernel_rfl) (fun _ _ _ h => h) (Or.inl ⟨by rfl, ?_⟩) ?_ ?_
        rotate_left
        · intro w'
          go_simp
          with_reducible rfl
        rotate_left
        · simp only [Act.put, List.setIfInBounds_toArray, List.set_cons_zero, List.set_cons_succ, i64_w, i32_w]
          rfl
        refine pure_ (i := 10) (N := some 28) (v := ?_) (a' := ?_) #[true, false, true, false, false, false, true, false, false, false, true, false, false, false, false, false, false, false, false, false, false] rfl rfl (by kernel_rfl) (fun _ _ _ h => h) (Or.inl ⟨by rfl, ?_⟩) ?_ ?_
        rotate_left
        · intro w'
          go_simp
          with_reducible rfl
        rotate_left
        · simp only [Act.put, List.setIfInBounds_toArray, List.set_cons_zero, List.set_cons_succ, i64_w, i32_w]
          rfl
        refine pure_ (i := 14) (N := some 32) (v := ?_) (a' := ?_) #[true, false, true, false, false, false, true, false, false, false, true, false, false, false, true, false, false, false, false, false, false] rfl rfl (by kernel_rfl) (fun _ _ _ h => h) (Or.inl ⟨by rfl, ?_⟩) ?_ ?_
        rotate_left
        · intro w'
          go_simp
          with_reducible rfl
        rotate_left
        · simp only [Act.put, List.setIfInBounds_toArray, List.set_cons_zero, List.set_cons_succ, i64_w, i32_w]
          rfl
        refine inv_at [1, 3, 4, 5, 7, 8, 9, 11, 12, 13, 15, 16, 17, 18, 19, 20] (fun a0_ b a w' => ∃ (y1_ : Nat) (y5_ : Nat) (y9_ : Nat) (y13_ : Nat) (A4_ : Option Addr) (d4_ : Nat) (A8_ : Option Addr) (d8_ : Nat) (A12_ : Option Addr) (d12_ : Nat) (A16_ : Option Addr) (d16_ : Nat) (y18_ : Nat) (W0_ : World) (A19_ : Option Addr) (n19_ : Nat) (c19_ : Nat) (m1_ : Value) (m4_ : Value) (m5_ : Value) (m8_ : Value) (m9_ : Value) (m12_ : Value) (m13_ : Value) (m16_ : Value) (m17_ : Value) (m18_ : Value) (m19_ : Value) (m20_ : Value), a = putSel a0_ b [(1, 19, m1_), (3, 21, .slice X0 G.f0.length c0), (4, 22, m4_), (5, 23, m5_), (7, 25, .slice X1 G.f1.length c1), (8, 26, m8_), (9, 27, m9_), (11, 29, .slice X2 G.f2.length c2), (12, 30, m12_), (13, 31, m13_), (15, 33, .slice X3 G.f3.length c3'), (16, 34, m16_), (17, 35, m17_), (18, 36, m18_), (19, 37, m19_), (20, 3, m20_)] ∧ (OwB w a0_0 a0_1 (some ad) l0_2.length c0_2 g5 #[.slice X0 G.f0.length c0, .slice X1 G.f1.length c1, .slice X2 G.f2.length c2, .slice X3 G.f3.length c3'] w') ∧ (b 19 = false → Kd.S k59 59 w' w.heap.size (fun k => w.heap.size + 1 < k ∧ k < g5) (.slice A3 n3 c3) xs) ∧ (b 1 = true → b 4 = false → w'.heap[y1_]? = some (.cells #[] 69 (0, 0)) ∧ g5 < y1_) ∧ (b 4 = true → b 19 = false → Kd.R (Kd.int .i8) 69 w' w.heap.size (fun z => g5 < z) (.slice A4_ G.f0.length d4_) G.f0) ∧ (b 5 = true → b 8 = false → w'.heap[y5_]? = some (.cells #[] 69 (0, 0)) ∧ g5 < y5_) ∧ (b 8 = true → b 19 = false → Kd.R (Kd.int .i8) 69 w' w.heap.size (fun z => g5 < z) (.slice A8_ G.f1.length d8_) G.f1) ∧ (b 9 = true → b 12 = false → w'.heap[y9_]? = some (.cells #[] 69 (0, 0)) ∧ g5 < y9_) ∧ (b 12 = true → b 19 = false → Kd.R (Kd.int .i8) 69 w' w.heap.size (fun z => g5 < z) (.slice A12_ G.f2.length d12_) G.f2) ∧ (b 13 = true → b 16 = false → w'.heap[y13_]? = some (.cells #[] 69 (0, 0)) ∧ g5 < y13_) ∧ (b 16 = true → b 19 = false → Kd.R (Kd.int .i8) 69 w' w.heap.size (fun z => g5 < z) (.slice A16_ G.f3.length d16_) G.f3) ∧ (b 18 = true → b 19 = false → w' = W0_.alloc (.cells #[.slice A4_ G.f0.length d4_, .slice A8_ G.f1.length d8_, .slice A12_ G.f2.length d12_, .slice A16_ G.f3.length d16_] 59) ∧ y18_ = W0_.heap.size ∧ (OwB w a0_0 a0_1 (some ad) l0_2.length c0_2 g5 #[.slice X0 G.f0.length c0, .slice X1 G.f1.length c1, .slice X2 G.f2.length c2, .slice X3 G.f3.length c3'] W0_) ∧ (Kd.S k59 59 W0_ w.heap.size (fun k => w.heap.size + 1 < k ∧ k < g5) (.slice A3 n3 c3) xs) ∧ k59.M W0_ w.heap.size (fun z => g5 < z) G [.slice A4_ G.f0.length d4_, .slice A8_ G.f1.length d8_, .slice A12_ G.f2.length d12_, .slice A16_ G.f3.length d16_]) ∧ (b 19 = true → Kd.S k59 59 w' w.heap.size (fun k => w.heap.size + 1 < k) (.slice A19_ n19_ c19_) (xs ++ [G])) ∧ (b 1 = true → (m1_ : Value) = .slice (some ⟨y1_, 0, none⟩) 0 0) ∧ (b 4 = true → (m4_ : Value) = .slice A4_ G.f0.length d4_) ∧ (b 5 = true → (m5_ : Value) = .slice (some ⟨y5_, 0, none⟩) 0 0) ∧ (b 8 = true → (m8_ : Value) = .slice A8_ G.f1.length d8_) ∧ (b 9 = true → (m9_ : Value) = .slice (some ⟨y9_, 0, none⟩) 0 0) ∧ (b 12 = true → (m12_ : Value) = .slice A12_ G.f2.length d12_) ∧ (b 13 = true → (m13_ : Value) = .slice (some ⟨y13_, 0, none⟩) 0 0) ∧ (b 16 = true → (m16_ : Value) = .slice A16_ G.f3.length d16_) ∧ (b 17 = true → (m17_ : Value) = .agg #[.slice A4_ G.f0.length d4_, .slice A8_ G.f1.length d8_, .slice A12_ G.f2.length d12_, .slice A16_ G.f3.length d16_]) ∧ (b 18 = true → (m18_ : Value) = .slice (some ⟨y18_, 0, none⟩) 1 1) ∧ (b 19 = true → (m19_ : Value) = .slice A19_ n19_ c19_) ∧ (b 20 = true → (m20_ : Value) = .slice A19_ n19_ c19_)) HT_.out HW_.out (by kernel_rfl) (by kernel_rfl) ?_ ?_ ?_
        · exact ⟨0, 0, 0, 0, none, 0, none, 0, none, 0, none, 0, 0, wr, none, 0, 0, .bool false, .bool false, .bool false, .bool false, .bool false, .bool false, .bool false, .bool false, .bool false, .bool false, .bool false, .bool false, by simp only [putSel, Bool.false_eq_true, if_false], HB.out, fun _ => HS.out, fun h_ => absurd h_ (by decide), fun h_ => absurd h_ (by decide), fun h_ => absurd h_ (by decide), fun h_ => absurd h_ (by decide), fun h_ => absurd h_ (by decide), fun h_ => absurd h_ (by decide), fun h_ => absurd h_ (by decide), fun h_ => absurd h_ (by decide), fun h_ => absurd h_ (by decide), fun h_ => absurd h_ (by decide), fun h_ => absurd h_ (by decide), fun h_ => absurd h_ (by decide), fun h_ => absurd h_ (by decide), fun h_ => absurd h_ (by decide), fun h_ => absurd h_ (by decide), fun h_ => absurd h_ (by decide), fun h_ => absurd h_ (by decide), fun h_ => absurd h_ (by decide), fun h_ => absurd h_ (by decide), fun h_ => absurd h_ (by decide), fun h_ => absurd h_ (by decide), fun h_ => absurd h_ (by decide)⟩
        · skip
          clear HB HS
          refine steps_cons ?_ ?_
          · rintro b a w' ⟨y1_, y5_, y9_, y13_, A4_, d4_, A8_, d8_, A12_, d12_, A16_, d16_, y18_, W0_, A19_, n19_, c19_, m1_, m4_, m5_, m8_, m9_, m12_, m13_, m16_, m17_, m18_, m19_, m20_, ha, Q_HB, Q_HS, Q_RL1, Q_RR4, Q_RL5, Q_RR8, Q_RL9, Q_RR12, Q_RL13, Q_RR16, Q_P18, Q_HS2, Q_X1_, Q_X4_, Q_X5_, Q_X8_, Q_X9_, Q_X12_, Q_X13_, Q_X16_, Q_X17_, Q_X18_, Q_X19_, Q_X20_⟩ hb_ hon hoff
            refine ⟨_, rfl, fun K hK => ?_⟩
            replace ha := Aside0.mk ha
            have HB := Aside0.mk Q_HB
            have HS := Aside0.mk (Q_HS (hoff 19 (by kernel_rfl)))
            have hlt : g5 < w'.heap.size := blk_lt HB.out.x
            have hb : Below w'.heap.size w' (w'.alloc (.cells #[] 69)) := below_alloc (Below.refl _ _) _
            refine value_ (w1 := w'.alloc (.cells #[] 69)) (v := .slice (some ⟨w'.heap.size, 0, none⟩) 0 0) (by rfl) rfl (by first | (go_simp; done) | (go_simp; rfl)) ?_
            refine hK.out _ _ ⟨w'.heap.size, y5_, y9_, y13_, A4_, d4_, A8_, d8_, A12_, d12_, A16_, d16_, y18_, W0_, A19_, n19_, c19_, (.slice (some ⟨w'.heap.size, 0, none⟩) 0 0), m4_, m5_, m8_, m9_, m12_, m13_, m16_, m17_, m18_, m19_, m20_, (by rw [ha.out]; exact putSel_upk 0 hb_ rfl rfl rfl), HB.out.below hb, fun _ => Kd.S_below HS.out hb, fun _ _ => ⟨blk_new w' _, hlt⟩, fun h0_ _ => absurd ((hoff 4 (by kernel_rfl)).symm.trans h0_) (by decide), fun h0_ h1_ => ⟨blk_below (Q_RL5 h0_ h1_).1 hb, (Q_RL5 h0_ h1_).2⟩, fun h0_ _ => absurd ((hoff 8 (by kernel_rfl)).symm.trans h0_) (by decide), fun h0_ h1_ => ⟨blk_below (Q_RL9 h0_ h1_).1 hb, (Q_RL9 h0_ h1_).2⟩, fun h0_ _ => absurd ((hoff 12 (by kernel_rfl)).symm.trans h0_) (by decide), fun h0_ h1_ => ⟨blk_below (Q_RL13 h0_ h1_).1 hb, (Q_RL13 h0_ h1_).2⟩, fun h0_ _ => absurd ((hoff 16 (by kernel_rfl)).symm.trans h0_) (by decide), fun h0_ _ => absurd ((hoff 18 (by kernel_rfl)).symm.trans h0_) (by decide), fun h0_ => absurd ((hoff 19 (by kernel_rfl)).symm.trans h0_) (by decide), fun _ => rfl, fun h0_ => absurd ((hoff 4 (by kernel_rfl)).symm.trans h0_) (by decide), Q_X5_, fun h0_ => absurd ((hoff 8 (by kernel_rfl)).symm.trans h0_) (by decide), Q_X9_, fun h0_ => absurd ((hoff 12 (by kernel_rfl)).symm.trans h0_) (by decide), Q_X13_, fun h0_ => absurd ((hoff 16 (by kernel_rfl)).symm.trans h0_) (by decide), fun h0_ => absurd ((hoff 17 (by kernel_rfl)).symm.trans h0_) (by decide), fun h0_ => absurd ((hoff 18 (by kernel_rfl)).symm.trans h0_) (by decide), fun h0_ => absurd ((hoff 19 (by kernel_rfl)).symm.trans h0_) (by decide), fun h0_ => absurd ((hoff 20 (by kernel_rfl)).symm.trans h0_) (by decide)⟩
          refine steps_cons ?_ ?_
          · rintro b a w' ⟨y1_, y5_, y9_, y13_, A4_, d4_, A8_, d8_, A12_, d12_, A16_, d16_, y18_, W0_, A19_, n19_, c19_, m1_, m4_, m5_, m8_, m9_, m12_, m13_, m16_, m17_, m18_, m19_, m20_, ha, Q_HB, Q_HS, Q_RL1, Q_RR4, Q_RL5, Q_RR8, Q_RL9, Q_RR12, Q_RL13, Q_RR16, Q_P18, Q_HS2, Q_X1_, Q_X4_, Q_X5_, Q_X8_, Q_X9_, Q_X12_, Q_X13_, Q_X16_, Q_X17_, Q_X18_, Q_X19_, Q_X20_⟩ hb_ hon hoff
            refine ⟨_, rfl, fun K hK => ?_⟩
            have e20 : a.tmps[20]? = some (.pointer (some ⟨g5, 0, none⟩)) := by rw [ha]; exact (putSel_off rfl).trans rfl
            replace ha := Aside0.mk ha
            have HB := Aside0.mk Q_HB
            have HS := Aside0.mk (Q_HS (hoff 19 (by kernel_rfl)))
            have hx_ := (blk_cell HB.out.x 0).trans rfl
            refine value_ (w1 := w') (v := .slice X0 G.f0.length c0) (by rfl) rfl ?_ ?_
            · go_simp
              (try simp only [i64_w])
              try rfl
            refine hK.out _ _ ⟨y1_, y5_, y9_, y13_, A4_, d4_, A8_, d8_, A12_, d12_, A16_, d16_, y18_, W0_, A19_, n19_, c19_, m1_, m4_, m5_, m8_, m9_, m12_, m13_, m16_, m17_, m18_, m19_, m20_, (by rw [ha.out]; exact putSel_upk 1 hb_ rfl rfl rfl), Q_HB, Q_HS, Q_RL1, fun h0_ _ => absurd ((hoff 4 (by kernel_rfl)).symm.trans h0_) (by decide), Q_RL5, fun h0_ _ => absurd ((hoff 8 (by kernel_rfl)).symm.trans h0_) (by decide), Q_RL9, fun h0_ _ => absurd ((hoff 12 (by kernel_rfl)).symm.trans h0_) (by decide), Q_RL13, fun h0_ _ => absurd ((hoff 16 (by kernel_rfl)).symm.trans h0_) (by decide), fun h0_ _ => absurd ((hoff 18 (by kernel_rfl)).symm.trans h0_) (by decide), fun h0_ => absurd ((hoff 19 (by kernel_rfl)).symm.trans h0_) (by decide), Q_X1_, fun h0_ => absurd ((hoff 4 (by kernel_rfl)).symm.trans h0_) (by decide), Q_X5_, fun h0_ => absurd ((hoff 8 (by kernel_rfl)).symm.trans h0_) (by decide), Q_X9_, fun h0_ => absurd ((hoff 12 (by kernel_rfl)).symm.trans h0_) (by decide), Q_X13_, fun h0_ => absurd ((hoff 16 (by kernel_rfl)).symm.trans h0_) (by decide), fun h0_ => absurd ((hoff 17 (by kernel_rfl)).symm.trans h0_) (by decide), fun h0_ => absurd ((hoff 18 (by kernel_rfl)).symm.trans h0_) (by decide), fun h0_ => absurd ((hoff 19 (by kernel_rfl)).symm.trans h0_) (by decide), fun h0_ => absurd ((hoff 20 (by kernel_rfl)).symm.trans h0_) (by decide)⟩
          refine steps_cons ?_ ?_
          · rintro b a w' ⟨y1_, y5_, y9_, y13_, A4_, d4_, A8_, d8_, A12_, d12_, A16_, d16_, y18_, W0_, A19_, n19_, c19_, m1_, m4_, m5_, m8_, m9_, m12_, m13_, m16_, m17_, m18_, m19_, m20_, ha, Q_HB, Q_HS, Q_RL1, Q_RR4, Q_RL5, Q_RR8, Q_RL9, Q_RR12, Q_RL13, Q_RR16, Q_P18, Q_HS2, Q_X1_, Q_X4_, Q_X5_, Q_X8_, Q_X9_, Q_X12_, Q_X13_, Q_X16_, Q_X17_, Q_X18_, Q_X19_, Q_X20_⟩ hb_ hon hoff
            refine ⟨_, rfl, fun K hK => ?_⟩
            have e19 : a.tmps[19]? = some (m1_) := by rw [ha]; exact putSel_on (e := (1, 19, m1_)) 0 rfl rfl (hon 1 (by kernel_rfl)) rfl
            rw [Q_X1_ (hon 1 (by kernel_rfl))] at e19
            have e21 : a.tmps[21]? = some (.slice X0 G.f0.length c0) := by rw [ha]; exact putSel_on (e := (3, 21, .slice X0 G.f0.length c0)) 1 rfl rfl (hon 3 (by kernel_rfl)) rfl
            replace ha := Aside0.mk ha
            have HB := Aside0.mk Q_HB
            have HS := Aside0.mk (Q_HS (hoff 19 (by kernel_rfl)))
            have RL1 := Aside0.mk (Q_RL1 (hon 1 (by kernel_rfl)) hb_)
            refine copy_step (by rfl) (.tmp 19) (.tmp 21) 24 69 .i8 1 rfl Try.underlying24 info69 (by decide) y1_ G.f0 X0 G.f0.length c0 (eval_of e19) (eval_of e21) RL1.out.1 (Kd.C_below HX0.out HB.out.b) (by have := HLN.out; omega) (base := w.heap.size) (Nat.le_of_lt (Nat.lt_trans HG.out RL1.out.2)) ?_
            intro vN w1 hR hb
            obtain ⟨AN, dN, hvN⟩ := Kd.R_slice hR
            subst hvN
            refine hK.out _ _ ⟨y1_, y5_, y9_, y13_, AN, dN, A8_, d8_, A12_, d12_, A16_, d16_, y18_, W0_, A19_, n19_, c19_, m1_, (.slice AN G.f0.length dN), m5_, m8_, m9_, m12_, m13_, m16_, m17_, m18_, m19_, m20_, (by rw [ha.out]; exact putSel_upk 2 hb_ rfl rfl rfl), HB.out.below hb, fun _ => Kd.S_below HS.out hb, fun _ h1_ => absurd ((up_self b 4).symm.trans h1_) (by decide), fun _ _ => Kd.R_mono hR (fun z hz => hz.elim (fun e_ => e_ ▸ RL1.out.2) (fun h_ => Nat.lt_of_lt_of_le (blk_lt HB.out.x) h_)), fun h0_ h1_ => ⟨blk_below (Q_RL5 h0_ h1_).1 hb, (Q_RL5 h0_ h1_).2⟩, fun h0_ _ => absurd ((hoff 8 (by kernel_rfl)).symm.trans h0_) (by decide), fun h0_ h1_ => ⟨blk_below (Q_RL9 h0_ h1_).1 hb, (Q_RL9 h0_ h1_).2⟩, fun h0_ _ => absurd ((hoff 12 (by kernel_rfl)).symm.trans h0_) (by decide), fun h0_ h1_ => ⟨blk_below (Q_RL13 h0_ h1_).1 hb, (Q_RL13 h0_ h1_).2⟩, fun h0_ _ => absurd ((hoff 16 (by kernel_rfl)).symm.trans h0_) (by decide), fun h0_ _ => absurd ((hoff 18 (by kernel_rfl)).symm.trans h0_) (by decide), fun h0_ => absurd ((hoff 19 (by kernel_rfl)).symm.trans h0_) (by decide), Q_X1_, fun _ => rfl, Q_X5_, fun h0_ => absurd ((hoff 8 (by kernel_rfl)).symm.trans h0_) (by decide), Q_X9_, fun h0_ => absurd ((hoff 12 (by kernel_rfl)).symm.trans h0_) (by decide), Q_X13_, fun h0_ => absurd ((hoff 16 (by kernel_rfl)).symm.trans h0_) (by decide), fun h0_ => absurd ((hoff 17 (by kernel_rfl)).symm.trans h0_) (by decide), fun h0_ => absurd ((hoff 18 (by kernel_rfl)).symm.trans h0_) (by decide), fun h0_ => absurd ((hoff 19 (by kernel_rfl)).symm.trans h0_) (by decide), fun h0_ => absurd ((hoff 20 (by kernel_rfl)).symm.trans h0_) (by decide)⟩
          refine steps_cons ?_ ?_
          · rintro b a w' ⟨y1_, y5_, y9_, y13_, A4_, d4_, A8_, d8_, A12_, d12_, A16_, d16_, y18_, W0_, A19_, n19_, c19_, m1_, m4_, m5_, m8_, m9_, m12_, m13_, m16_, m17_, m18_, m19_, m20_, ha, Q_HB, Q_HS, Q_RL1, Q_RR4, Q_RL5, Q_RR8, Q_RL9, Q_RR12, Q_RL13, Q_RR16, Q_P18, Q_HS2, Q_X1_, Q_X4_, Q_X5_, Q_X8_, Q_X9_, Q_X12_, Q_X13_, Q_X16_, Q_X17_, Q_X18_, Q_X19_, Q_X20_⟩ hb_ hon hoff
            refine ⟨_, rfl, fun K hK => ?_⟩
            replace ha := Aside0.mk ha
            have HB := Aside0.mk Q_HB
            have HS := Aside0.mk (Q_HS (hoff 19 (by kernel_rfl)))
            have hlt : g5 < w'.heap.size := blk_lt HB.out.x
            have hb : Below w'.heap.size w' (w'.alloc (.cells #[] 69)) := below_alloc (Below.refl _ _) _
            refine value_ (w1 := w'.alloc (.cells #[] 69)) (v := .slice (some ⟨w'.heap.size, 0, none⟩) 0 0) (by rfl) rfl (by first | (go_simp; done) | (go_simp; rfl)) ?_
            refine hK.out _ _ ⟨y1_, w'.heap.size, y9_, y13_, A4_, d4_, A8_, d8_, A12_, d12_, A16_, d16_, y18_, W0_, A19_, n19_, c19_, m1_, m4_, (.slice (some ⟨w'.heap.size, 0, none⟩) 0 0), m8_, m9_, m12_, m13_, m16_, m17_, m18_, m19_, m20_, (by rw [ha.out]; exact putSel_upk 3 hb_ rfl rfl rfl), HB.out.below hb, fun _ => Kd.S_below HS.out hb, fun h0_ h1_ => ⟨blk_below (Q_RL1 h0_ h1_).1 hb, (Q_RL1 h0_ h1_).2⟩, fun h0_ h1_ => Kd.R_below (Q_RR4 h0_ h1_) hb, fun _ _ => ⟨blk_new w' _, hlt⟩, fun h0_ _ => absurd ((hoff 8 (by kernel_rfl)).symm.trans h0_) (by decide), fun h0_ h1_ => ⟨blk_below (Q_RL9 h0_ h1_).1 hb, (Q_RL9 h0_ h1_).2⟩, fun h0_ _ => absurd ((hoff 12 (by kernel_rfl)).symm.trans h0_) (by decide), fun h0_ h1_ => ⟨blk_below (Q_RL13 h0_ h1_).1 hb, (Q_RL13 h0_ h1_).2⟩, fun h0_ _ => absurd ((hoff 16 (by kernel_rfl)).symm.trans h0_) (by decide), fun h0_ _ => absurd ((hoff 18 (by kernel_rfl)).symm.trans h0_) (by decide), fun h0_ => absurd ((hoff 19 (by kernel_rfl)).symm.trans h0_) (by decide), Q_X1_, Q_X4_, fun _ => rfl, fun h0_ => absurd ((hoff 8 (by kernel_rfl)).symm.trans h0_) (by decide), Q_X9_, fun h0_ => absurd ((hoff 12 (by kernel_rfl)).symm.trans h0_) (by decide), Q_X13_, fun h0_ => absurd ((hoff 16 (by kernel_rfl)).symm.trans h0_) (by decide), fun h0_ => absurd ((hoff 17 (by kernel_rfl)).symm.trans h0_) (by decide), fun h0_ => absurd ((hoff 18 (by kernel_rfl)).symm.trans h0_) (by decide), fun h0_ => absurd ((hoff 19 (by kernel_rfl)).symm.trans h0_) (by decide), fun h0_ => absurd ((hoff 20 (by kernel_rfl)).symm.trans h0_) (by decide)⟩
          refine steps_cons ?_ ?_
          · rintro b a w' ⟨y1_, y5_, y9_, y13_, A4_, d4_, A8_, d8_, A12_, d12_, A16_, d16_, y18_, W0_, A19_, n19_, c19_, m1_, m4_, m5_, m8_, m9_, m12_, m13_, m16_, m17_, m18_, m19_, m20_, ha, Q_HB, Q_HS, Q_RL1, Q_RR4, Q_RL5, Q_RR8, Q_RL9, Q_RR12, Q_RL13, Q_RR16, Q_P18, Q_HS2, Q_X1_, Q_X4_, Q_X5_, Q_X8_, Q_X9_, Q_X12_, Q_X13_, Q_X16_, Q_X17_, Q_X18_, Q_X19_, Q_X20_⟩ hb_ hon hoff
            refine ⟨_, rfl, fun K hK => ?_⟩
            have e24 : a.tmps[24]? = some (.pointer (some ⟨g5, 1, none⟩)) := by rw [ha]; exact (putSel_off rfl).trans rfl
            replace ha := Aside0.mk ha
            have HB := Aside0.mk Q_HB
            have HS := Aside0.mk (Q_HS (hoff 19 (by kernel_rfl)))
            have hx_ := (blk_cell HB.out.x 1).trans rfl
            refine value_ (w1 := w') (v := .slice X1 G.f1.length c1) (by rfl) rfl ?_ ?_
            · go_simp
              (try simp only [i64_w])
              try rfl
            refine hK.out _ _ ⟨y1_, y5_, y9_, y13_, A4_, d4_, A8_, d8_, A12_, d12_, A16_, d16_, y18_, W0_, A19_, n19_, c19_, m1_, m4_, m5_, m8_, m9_, m12_, m13_, m16_, m17_, m18_, m19_, m20_, (by rw [ha.out]; exact putSel_upk 4 hb_ rfl rfl rfl), Q_HB, Q_HS, Q_RL1, Q_RR4, Q_RL5, fun h0_ _ => absurd ((hoff 8 (by kernel_rfl)).symm.trans h0_) (by decide), Q_RL9, fun h0_ _ => absurd ((hoff 12 (by kernel_rfl)).symm.trans h0_) (by decide), Q_RL13, fun h0_ _ => absurd ((hoff 16 (by kernel_rfl)).symm.trans h0_) (by decide), fun h0_ _ => absurd ((hoff 18 (by kernel_rfl)).symm.trans h0_) (by decide), fun h0_ => absurd ((hoff 19 (by kernel_rfl)).symm.trans h0_) (by decide), Q_X1_, Q_X4_, Q_X5_, fun h0_ => absurd ((hoff 8 (by kernel_rfl)).symm.trans h0_) (by decide), Q_X9_, fun h0_ => absurd ((hoff 12 (by kernel_rfl)).symm.trans h0_) (by decide), Q_X13_, fun h0_ => absurd ((hoff 16 (by kernel_rfl)).symm.trans h0_) (by decide), fun h0_ => absurd ((hoff 17 (by kernel_rfl)).symm.trans h0_) (by decide), fun h0_ => absurd ((hoff 18 (by kernel_rfl)).symm.trans h0_) (by decide), fun h0_ => absurd ((hoff 19 (by kernel_rfl)).symm.trans h0_) (by decide), fun h0_ => absurd ((hoff 20 (by kernel_rfl)).symm.trans h0_) (by decide)⟩
          refine steps_cons ?_ ?_
          · rintro b a w' ⟨y1_, y5_, y9_, y13_, A4_, d4_, A8_, d8_, A12_, d12_, A16_, d16_, y18_, W0_, A19_, n19_, c19_, m1_, m4_, m5_, m8_, m9_, m12_, m13_, m16_, m17_, m18_, m19_, m20_, ha, Q_HB, Q_HS, Q_RL1, Q_RR4, Q_RL5, Q_RR8, Q_RL9, Q_RR12, Q_RL13, Q_RR16, Q_P18, Q_HS2, Q_X1_, Q_X4_, Q_X5_, Q_X8_, Q_X9_, Q_X12_, Q_X13_, Q_X16_, Q_X17_, Q_X18_, Q_X19_, Q_X20_⟩ hb_ hon hoff
            refine ⟨_, rfl, fun K hK => ?_⟩
            have e23 : a.tmps[23]? = some (m5_) := by rw [ha]; exact putSel_on (e := (5, 23, m5_)) 3 rfl rfl (hon 5 (by kernel_rfl)) rfl
            rw [Q_X5_ (hon 5 (by kernel_rfl))] at e23
            have e25 : a.tmps[25]? = some (.slice X1 G.f1.length c1) := by rw [ha]; exact putSel_on (e := (7, 25, .slice X1 G.f1.length c1)) 4 rfl rfl (hon 7 (by kernel_rfl)) rfl
            replace ha := Aside0.mk ha
            have HB := Aside0.mk Q_HB
            have HS := Aside0.mk (Q_HS (hoff 19 (by kernel_rfl)))
            have RR4 := Aside0.mk (Q_RR4 (hon 4 (by kernel_rfl)) (hoff 19 (by kernel_rfl)))
            have RL5 := Aside0.mk (Q_RL5 (hon 5 (by kernel_rfl)) hb_)
            refine copy_step (by rfl) (.tmp 23) (.tmp 25) 24 69 .i8 1 rfl Try.underlying24 info69 (by decide) y5_ G.f1 X1 G.f1.length c1 (eval_of e23) (eval_of e25) RL5.out.1 (Kd.C_below HX1.out HB.out.b) (by have := HLN.out; omega) (base := w.heap.size) (Nat.le_of_lt (Nat.lt_trans HG.out RL5.out.2)) ?_
            intro vN w1 hR hb
            obtain ⟨AN, dN, hvN⟩ := Kd.R_slice hR
            subst hvN
            refine hK.out _ _ ⟨y1_, y5_, y9_, y13_, A4_, d4_, AN, dN, A12_, d12_, A16_, d16_, y18_, W0_, A19_, n19_, c19_, m1_, m4_, m5_, (.slice AN G.f1.length dN), m9_, m12_, m13_, m16_, m17_, m18_, m19_, m20_, (by rw [ha.out]; exact putSel_upk 5 hb_ rfl rfl rfl), HB.out.below hb, fun _ => Kd.S_below HS.out hb, fun _ h1_ => absurd ((hon 4 (by kernel_rfl)).symm.trans h1_) (by decide), fun _ _ => Kd.R_below RR4.out hb, fun _ h1_ => absurd ((up_self b 8).symm.trans h1_) (by decide), fun _ _ => Kd.R_mono hR (fun z hz => hz.elim (fun e_ => e_ ▸ RL5.out.2) (fun h_ => Nat.lt_of_lt_of_le (blk_lt HB.out.x) h_)), fun h0_ h1_ => ⟨blk_below (Q_RL9 h0_ h1_).1 hb, (Q_RL9 h0_ h1_).2⟩, fun h0_ _ => absurd ((hoff 12 (by kernel_rfl)).symm.trans h0_) (by decide), fun h0_ h1_ => ⟨blk_below (Q_RL13 h0_ h1_).1 hb, (Q_RL13 h0_ h1_).2⟩, fun h0_ _ => absurd ((hoff 16 (by kernel_rfl)).symm.trans h0_) (by decide), fun h0_ _ => absurd ((hoff 18 (by kernel_rfl)).symm.trans h0_) (by decide), fun h0_ => absurd ((hoff 19 (by kernel_rfl)).symm.trans h0_) (by decide), Q_X1_, Q_X4_, Q_X5_, fun _ => rfl, Q_X9_, fun h0_ => absurd ((hoff 12 (by kernel_rfl)).symm.trans h0_) (by decide), Q_X13_, fun h0_ => absurd ((hoff 16 (by kernel_rfl)).symm.trans h0_) (by decide), fun h0_ => absurd ((hoff 17 (by kernel_rfl)).symm.trans h0_) (by decide), fun h0_ => absurd ((hoff 18 (by kernel_rfl)).symm.trans h0_) (by decide), fun h0_ => absurd ((hoff 19 (by kernel_rfl)).symm.trans h0_) (by decide), fun h0_ => absurd ((hoff 20 (by kernel_rfl)).symm.trans h0_) (by decide)⟩
          refine steps_cons ?_ ?_
          · rintro b a w' ⟨y1_, y5_, y9_, y13_, A4_, d4_, A8_, d8_, A12_, d12_, A16_, d16_, y18_, W0_, A19_, n19_, c19_, m1_, m4_, m5_, m8_, m9_, m12_, m13_, m16_, m17_, m18_, m19_, m20_, ha, Q_HB, Q_HS, Q_RL1, Q_RR4, Q_RL5, Q_RR8, Q_RL9, Q_RR12, Q_RL13, Q_RR16, Q_P18, Q_HS2, Q_X1_, Q_X4_, Q_X5_, Q_X8_, Q_X9_, Q_X12_, Q_X13_, Q_X16_, Q_X17_, Q_X18_, Q_X19_, Q_X20_⟩ hb_ hon hoff
            refine ⟨_, rfl, fun K hK => ?_⟩
            replace ha := Aside0.mk ha
            have HB := Aside0.mk Q_HB
            have HS := Aside0.mk (Q_HS (hoff 19 (by kernel_rfl)))
            have hlt : g5 < w'.heap.size := blk_lt HB.out.x
            have hb : Below w'.heap.size w' (w'.alloc (.cells #[] 69)) := below_alloc (Below.refl _ _) _
            refine value_ (w1 := w'.alloc (.cells #[] 69)) (v := .slice (some ⟨w'.heap.size, 0, none⟩) 0 0) (by rfl) rfl (by first | (go_simp; done) | (go_simp; rfl)) ?_
            refine hK.out _ _ ⟨y1_, y5_, w'.heap.size, y13_, A4_, d4_, A8_, d8_, A12_, d12_, A16_, d16_, y18_, W0_, A19_, n19_, c19_, m1_, m4_, m5_, m8_, (.slice (some ⟨w'.heap.size, 0, none⟩) 0 0), m12_, m13_, m16_, m17_, m18_, m19_, m20_, (by rw [ha.out]; exact putSel_upk 6 hb_ rfl rfl rfl), HB.out.below hb, fun _ => Kd.S_below HS.out hb, fun h0_ h1_ => ⟨blk_below (Q_RL1 h0_ h1_).1 hb, (Q_RL1 h0_ h1_).2⟩, fun h0_ h1_ => Kd.R_below (Q_RR4 h0_ h1_) hb, fun h0_ h1_ => ⟨blk_below (Q_RL5 h0_ h1_).1 hb, (Q_RL5 h0_ h1_).2⟩, fun h0_ h1_ => Kd.R_below (Q_RR8 h0_ h1_) hb, fun _ _ => ⟨blk_new w' _, hlt⟩, fun h0_ _ => absurd ((hoff 12 (by kernel_rfl)).symm.trans h0_) (by decide), fun h0_ h1_ => ⟨blk_below (Q_RL13 h0_ h1_).1 hb, (Q_RL13 h0_ h1_).2⟩, fun h0_ _ => absurd ((hoff 16 (by kernel_rfl)).symm.trans h0_) (by decide), fun h0_ _ => absurd ((hoff 18 (by kernel_rfl)).symm.trans h0_) (by decide), fun h0_ => absurd ((hoff 19 (by kernel_rfl)).symm.trans h0_) (by decide), Q_X1_, Q_X4_, Q_X5_, Q_X8_, fun _ => rfl, fun h0_ => absurd ((hoff 12 (by kernel_rfl)).symm.trans h0_) (by decide), Q_X13_, fun h0_ => absurd ((hoff 16 (by kernel_rfl)).symm.trans h0_) (by decide), fun h0_ => absurd ((hoff 17 (by kernel_rfl)).symm.trans h0_) (by decide), fun h0_ => absurd ((hoff 18 (by kernel_rfl)).symm.trans h0_) (by decide), fun h0_ => absurd ((hoff 19 (by kernel_rfl)).symm.trans h0_) (by decide), fun h0_ => absurd ((hoff 20 (by kernel_rfl)).symm.trans h0_) (by decide)⟩
          refine steps_cons ?_ ?_
          · rintro b a w' ⟨y1_, y5_, y9_, y13_, A4_, d4_, A8_, d8_, A12_, d12_, A16_, d16_, y18_, W0_, A19_, n19_, c19_, m1_, m4_, m5_, m8_, m9_, m12_, m13_, m16_, m17_, m18_, m19_, m20_, ha, Q_HB, Q_HS, Q_RL1, Q_RR4, Q_RL5, Q_RR8, Q_RL9, Q_RR12, Q_RL13, Q_RR16, Q_P18, Q_HS2, Q_X1_, Q_X4_, Q_X5_, Q_X8_, Q_X9_, Q_X12_, Q_X13_, Q_X16_, Q_X17_, Q_X18_, Q_X19_, Q_X20_⟩ hb_ hon hoff
            refine ⟨_, rfl, fun K hK => ?_⟩
            have e28 : a.tmps[28]? = some (.pointer (some ⟨g5, 2, none⟩)) := by rw [ha]; exact (putSel_off rfl).trans rfl
            replace ha := Aside0.mk ha
            have HB := Aside0.mk Q_HB
            have HS := Aside0.mk (Q_HS (hoff 19 (by kernel_rfl)))
            have hx_ := (blk_cell HB.out.x 2).trans rfl
            refine value_ (w1 := w') (v := .slice X2 G.f2.length c2) (by rfl) rfl ?_ ?_
            · go_simp
              (try simp only [i64_w])
              try rfl
            refine hK.out _ _ ⟨y1_, y5_, y9_, y13_, A4_, d4_, A8_, d8_, A12_, d12_, A16_, d16_, y18_, W0_, A19_, n19_, c19_, m1_, m4_, m5_, m8_, m9_, m12_, m13_, m16_, m17_, m18_, m19_, m20_, (by rw [ha.out]; exact putSel_upk 7 hb_ rfl rfl rfl), Q_HB, Q_HS, Q_RL1, Q_RR4, Q_RL5, Q_RR8, Q_RL9, fun h0_ _ => absurd ((hoff 12 (by kernel_rfl)).symm.trans h0_) (by decide), Q_RL13, fun h0_ _ => absurd ((hoff 16 (by kernel_rfl)).symm.trans h0_) (by decide), fun h0_ _ => absurd ((hoff 18 (by kernel_rfl)).symm.trans h0_) (by decide), fun h0_ => absurd ((hoff 19 (by kernel_rfl)).symm.trans h0_) (by decide), Q_X1_, Q_X4_, Q_X5_, Q_X8_, Q_X9_, fun h0_ => absurd ((hoff 12 (by kernel_rfl)).symm.trans h0_) (by decide), Q_X13_, fun h0_ => absurd ((hoff 16 (by kernel_rfl)).symm.trans h0_) (by decide), fun h0_ => absurd ((hoff 17 (by kernel_rfl)).symm.trans h0_) (by decide), fun h0_ => absurd ((hoff 18 (by kernel_rfl)).symm.trans h0_) (by decide), fun h0_ => absurd ((hoff 19 (by kernel_rfl)).symm.trans h0_) (by decide), fun h0_ => absurd ((hoff 20 (by kernel_rfl)).symm.trans h0_) (by decide)⟩
          refine steps_cons ?_ ?_
          · rintro b a w' ⟨y1_, y5_, y9_, y13_, A4_, d4_, A8_, d8_, A12_, d12_, A16_, d16_, y18_, W0_, A19_, n19_, c19_, m1_, m4_, m5_, m8_, m9_, m12_, m13_, m16_, m17_, m18_, m19_, m20_, ha, Q_HB, Q_HS, Q_RL1, Q_RR4, Q_RL5, Q_RR8, Q_RL9, Q_RR12, Q_RL13, Q_RR16, Q_P18, Q_HS2, Q_X1_, Q_X4_, Q_X5_, Q_X8_, Q_X9_, Q_X12_, Q_X13_, Q_X16_, Q_X17_, Q_X18_, Q_X19_, Q_X20_⟩ hb_ hon hoff
            refine ⟨_, rfl, fun K hK => ?_⟩
            have e27 : a.tmps[27]? = some (m9_) := by rw [ha]; exact putSel_on (e := (9, 27, m9_)) 6 rfl rfl (hon 9 (by kernel_rfl)) rfl
            rw [Q_X9_ (hon 9 (by kernel_rfl))] at e27
            have e29 : a.tmps[29]? = some (.slice X2 G.f2.length c2) := by rw [ha]; exact putSel_on (e := (11, 29, .slice X2 G.f2.length c2)) 7 rfl rfl (hon 11 (by kernel_rfl)) rfl
            replace ha := Aside0.mk ha
            have HB := Aside0.mk Q_HB
            have HS := Aside0.mk (Q_HS (hoff 19 (by kernel_rfl)))
            have RR4 := Aside0.mk (Q_RR4 (hon 4 (by kernel_rfl)) (hoff 19 (by kernel_rfl)))
            have RR8 := Aside0.mk (Q_RR8 (hon 8 (by kernel_rfl)) (hoff 19 (by kernel_rfl)))
            have RL9 := Aside0.mk (Q_RL9 (hon 9 (by kernel_rfl)) hb_)
            refine copy_step (by rfl) (.tmp 27) (.tmp 29) 24 69 .i8 1 rfl Try.underlying24 info69 (by decide) y9_ G.f2 X2 G.f2.length c2 (eval_of e27) (eval_of e29) RL9.out.1 (Kd.C_below HX2.out HB.out.b) (by have := HLN.out; omega) (base := w.heap.size) (Nat.le_of_lt (Nat.lt_trans HG.out RL9.out.2)) ?_
            intro vN w1 hR hb
            obtain ⟨AN, dN, hvN⟩ := Kd.R_slice hR
            subst hvN
            refine hK.out _ _ ⟨y1_, y5_, y9_, y13_, A4_, d4_, A8_, d8_, AN, dN, A16_, d16_, y18_, W0_, A19_, n19_, c19_, m1_, m4_, m5_, m8_, m9_, (.slice AN G.f2.length dN), m13_, m16_, m17_, m18_, m19_, m20_, (by rw [ha.out]; exact putSel_upk 8 hb_ rfl rfl rfl), HB.out.below hb, fun _ => Kd.S_below HS.out hb, fun _ h1_ => absurd ((hon 4 (by kernel_rfl)).symm.trans h1_) (by decide), fun _ _ => Kd.R_below RR4.out hb, fun _ h1_ => absurd ((hon 8 (by kernel_rfl)).symm.trans h1_) (by decide), fun _ _ => Kd.R_below RR8.out hb, fun _ h1_ => absurd ((up_self b 12).symm.trans h1_) (by decide), fun _ _ => Kd.R_mono hR (fun z hz => hz.elim (fun e_ => e_ ▸ RL9.out.2) (fun h_ => Nat.lt_of_lt_of_le (blk_lt HB.out.x) h_)), fun h0_ h1_ => ⟨blk_below (Q_RL13 h0_ h1_).1 hb, (Q_RL13 h0_ h1_).2⟩, fun h0_ _ => absurd ((hoff 16 (by kernel_rfl)).symm.trans h0_) (by decide), fun h0_ _ => absurd ((hoff 18 (by kernel_rfl)).symm.trans h0_) (by decide), fun h0_ => absurd ((hoff 19 (by kernel_rfl)).symm.trans h0_) (by decide), Q_X1_, Q_X4_, Q_X5_, Q_X8_, Q_X9_, fun _ => rfl, Q_X13_, fun h0_ => absurd ((hoff 16 (by kernel_rfl)).symm.trans h0_) (by decide), fun h0_ => absurd ((hoff 17 (by kernel_rfl)).symm.trans h0_) (by decide), fun h0_ => absurd ((hoff 18 (by kernel_rfl)).symm.trans h0_) (by decide), fun h0_ => absurd ((hoff 19 (by kernel_rfl)).symm.trans h0_) (by decide), fun h0_ => absurd ((hoff 20 (by kernel_rfl)).symm.trans h0_) (by decide)⟩
          refine steps_cons ?_ ?_
          · rintro b a w' ⟨y1_, y5_, y9_, y13_, A4_, d4_, A8_, d8_, A12_, d12_, A16_, d16_, y18_, W0_, A19_, n19_, c19_, m1_, m4_, m5_, m8_, m9_, m12_, m13_, m16_, m17_, m18_, m19_, m20_, ha, Q_HB, Q_HS, Q_RL1, Q_RR4, Q_RL5, Q_RR8, Q_RL9, Q_RR12, Q_RL13, Q_RR16, Q_P18, Q_HS2, Q_X1_, Q_X4_, Q_X5_, Q_X8_, Q_X9_, Q_X12_, Q_X13_, Q_X16_, Q_X17_, Q_X18_, Q_X19_, Q_X20_⟩ hb_ hon hoff
            refine ⟨_, rfl, fun K hK => ?_⟩
            replace ha := Aside0.mk ha
            have HB := Aside0.mk Q_HB
            have HS := Aside0.mk (Q_HS (hoff 19 (by kernel_rfl)))
            have hlt : g5 < w'.heap.size := blk_lt HB.out.x
            have hb : Below w'.heap.size w' (w'.alloc (.cells #[] 69)) := below_alloc (Below.refl _ _) _
            refine value_ (w1 := w'.alloc (.cells #[] 69)) (v := .slice (some ⟨w'.heap.size, 0, none⟩) 0 0) (by rfl) rfl (by first | (go_simp; done) | (go_simp; rfl)) ?_
            refine hK.out _ _ ⟨y1_, y5_, y9_, w'.heap.size, A4_, d4_, A8_, d8_, A12_, d12_, A16_, d16_, y18_, W0_, A19_, n19_, c19_, m1_, m4_, m5_, m8_, m9_, m12_, (.slice (some ⟨w'.heap.size, 0, none⟩) 0 0), m16_, m17_, m18_, m19_, m20_, (by rw [ha.out]; exact putSel_upk 9 hb_ rfl rfl rfl), HB.out.below hb, fun _ => Kd.S_below HS.out hb, fun h0_ h1_ => ⟨blk_below (Q_RL1 h0_ h1_).1 hb, (Q_RL1 h0_ h1_).2⟩, fun h0_ h1_ => Kd.R_below (Q_RR4 h0_ h1_) hb, fun h0_ h1_ => ⟨blk_below (Q_RL5 h0_ h1_).1 hb, (Q_RL5 h0_ h1_).2⟩, fun h0_ h1_ => Kd.R_below (Q_RR8 h0_ h1_) hb, fun h0_ h1_ => ⟨blk_below (Q_RL9 h0_ h1_).1 hb, (Q_RL9 h0_ h1_).2⟩, fun h0_ h1_ => Kd.R_below (Q_RR12 h0_ h1_) hb, fun _ _ => ⟨blk_new w' _, hlt⟩, fun h0_ _ => absurd ((hoff 16 (by kernel_rfl)).symm.trans h0_) (by decide), fun h0_ _ => absurd ((hoff 18 (by kernel_rfl)).symm.trans h0_) (by decide), fun h0_ => absurd ((hoff 19 (by kernel_rfl)).symm.trans h0_) (by decide), Q_X1_, Q_X4_, Q_X5_, Q_X8_, Q_X9_, Q_X12_, fun _ => rfl, fun h0_ => absurd ((hoff 16 (by kernel_rfl)).symm.trans h0_) (by decide), fun h0_ => absurd ((hoff 17 (by kernel_rfl)).symm.trans h0_) (by decide), fun h0_ => absurd ((hoff 18 (by kernel_rfl)).symm.trans h0_) (by decide), fun h0_ => absurd ((hoff 19 (by kernel_rfl)).symm.trans h0_) (by decide), fun h0_ => absurd ((hoff 20 (by kernel_rfl)).symm.trans h0_) (by decide)⟩
          refine steps_cons ?_ ?_
          · rintro b a w' ⟨y1_, y5_, y9_, y13_, A4_, d4_, A8_, d8_, A12_, d12_, A16_, d16_, y18_, W0_, A19_, n19_, c19_, m1_, m4_, m5_, m8_, m9_, m12_, m13_, m16_, m17_, m18_, m19_, m20_, ha, Q_HB, Q_HS, Q_RL1, Q_RR4, Q_RL5, Q_RR8, Q_RL9, Q_RR12, Q_RL13, Q_RR16, Q_P18, Q_HS2, Q_X1_, Q_X4_, Q_X5_, Q_X8_, Q_X9_, Q_X12_, Q_X13_, Q_X16_, Q_X17_, Q_X18_, Q_X19_, Q_X20_⟩ hb_ hon hoff
            refine ⟨_, rfl, fun K hK => ?_⟩
            have e32 : a.tmps[32]? = some (.pointer (some ⟨g5, 3, none⟩)) := by rw [ha]; exact (putSel_off rfl).trans rfl
            replace ha := Aside0.mk ha
            have HB := Aside0.mk Q_HB
            have HS := Aside0.mk (Q_HS (hoff 19 (by kernel_rfl)))
            have hx_ := (blk_cell HB.out.x 3).trans rfl
            refine value_ (w1 := w') (v := .slice X3 G.f3.length c3') (by rfl) rfl ?_ ?_
            · go_simp
              (try simp only [i64_w])
              try rfl
            refine hK.out _ _ ⟨y1_, y5_, y9_, y13_, A4_, d4_, A8_, d8_, A12_, d12_, A16_, d16_, y18_, W0_, A19_, n19_, c19_, m1_, m4_, m5_, m8_, m9_, m12_, m13_, m16_, m17_, m18_, m19_, m20_, (by rw [ha.out]; exact putSel_upk 10 hb_ rfl rfl rfl), Q_HB, Q_HS, Q_RL1, Q_RR4, Q_RL5, Q_RR8, Q_RL9, Q_RR12, Q_RL13, fun h0_ _ => absurd ((hoff 16 (by kernel_rfl)).symm.trans h0_) (by decide), fun h0_ _ => absurd ((hoff 18 (by kernel_rfl)).symm.trans h0_) (by decide), fun h0_ => absurd ((hoff 19 (by kernel_rfl)).symm.trans h0_) (by decide), Q_X1_, Q_X4_, Q_X5_, Q_X8_, Q_X9_, Q_X12_, Q_X13_, fun h0_ => absurd ((hoff 16 (by kernel_rfl)).symm.trans h0_) (by decide), fun h0_ => absurd ((hoff 17 (by kernel_rfl)).symm.trans h0_) (by decide), fun h0_ => absurd ((hoff 18 (by kernel_rfl)).symm.trans h0_) (by decide), fun h0_ => absurd ((hoff 19 (by kernel_rfl)).symm.trans h0_) (by decide), fun h0_ => absurd ((hoff 20 (by kernel_rfl)).symm.trans h0_) (by decide)⟩
          refine steps_cons ?_ ?_
          · rintro b a w' ⟨y1_, y5_, y9_, y13_, A4_, d4_, A8_, d8_, A12_, d12_, A16_, d16_, y18_, W0_, A19_, n19_, c19_, m1_, m4_, m5_, m8_, m9_, m12_, m13_, m16_, m17_, m18_, m19_, m20_, ha, Q_HB, Q_HS, Q_RL1, Q_RR4, Q_RL5, Q_RR8, Q_RL9, Q_RR12, Q_RL13, Q_RR16, Q_P18, Q_HS2, Q_X1_, Q_X4_, Q_X5_, Q_X8_, Q_X9_, Q_X12_, Q_X13_, Q_X16_, Q_X17_, Q_X18_, Q_X19_, Q_X20_⟩ hb_ hon hoff
            refine ⟨_, rfl, fun K hK => ?_⟩
            have e31 : a.tmps[31]? = some (m13_) := by rw [ha]; exact putSel_on (e := (13, 31, m13_)) 9 rfl rfl (hon 13 (by kernel_rfl)) rfl
            rw [Q_X13_ (hon 13 (by kernel_rfl))] at e31
            have e33 : a.tmps[33]? = some (.slice X3 G.f3.length c3') := by rw [ha]; exact putSel_on (e := (15, 33, .slice X3 G.f3.length c3')) 10 rfl rfl (hon 15 (by kernel_rfl)) rfl
            replace ha := Aside0.mk ha
            have HB := Aside0.mk Q_HB
            have HS := Aside0.mk (Q_HS (hoff 19 (by kernel_rfl)))
            have RR4 := Aside0.mk (Q_RR4 (hon 4 (by kernel_rfl)) (hoff 19 (by kernel_rfl)))
            have RR8 := Aside0.mk (Q_RR8 (hon 8 (by kernel_rfl)) (hoff 19 (by kernel_rfl)))
            have RR12 := Aside0.mk (Q_RR12 (hon 12 (by kernel_rfl)) (hoff 19 (by kernel_rfl)))
            have RL13 := Aside0.mk (Q_RL13 (hon 13 (by kernel_rfl)) hb_)
            refine copy_step (by rfl) (.tmp 31) (.tmp 33) 24 69 .i8 1 rfl Try.underlying24 info69 (by decide) y13_ G.f3 X3 G.f3.length c3' (eval_of e31) (eval_of e33) RL13.out.1 (Kd.C_below HX3.out HB.out.b) (by have := HLN.out; omega) (base := w.heap.size) (Nat.le_of_lt (Nat.lt_trans HG.out RL13.out.2)) ?_
            intro vN w1 hR hb
            obtain ⟨AN, dN, hvN⟩ := Kd.R_slice hR
            subst hvN
            refine hK.out _ _ ⟨y1_, y5_, y9_, y13_, A4_, d4_, A8_, d8_, A12_, d12_, AN, dN, y18_, W0_, A19_, n19_, c19_, m1_, m4_, m5_, m8_, m9_, m12_, m13_, (.slice AN G.f3.length dN), m17_, m18_, m19_, m20_, (by rw [ha.out]; exact putSel_upk 11 hb_ rfl rfl rfl), HB.out.below hb, fun _ => Kd.S_below HS.out hb, fun _ h1_ => absurd ((hon 4 (by kernel_rfl)).symm.trans h1_) (by decide), fun _ _ => Kd.R_below RR4.out hb, fun _ h1_ => absurd ((hon 8 (by kernel_rfl)).symm.trans h1_) (by decide), fun _ _ => Kd.R_below RR8.out hb, fun _ h1_ => absurd ((hon 12 (by kernel_rfl)).symm.trans h1_) (by decide), fun _ _ => Kd.R_below RR12.out hb, fun _ h1_ => absurd ((up_self b 16).symm.trans h1_) (by decide), fun _ _ => Kd.R_mono hR (fun z hz => hz.elim (fun e_ => e_ ▸ RL13.out.2) (fun h_ => Nat.lt_of_lt_of_le (blk_lt HB.out.x) h_)), fun h0_ _ => absurd ((hoff 18 (by kernel_rfl)).symm.trans h0_) (by decide), fun h0_ => absurd ((hoff 19 (by kernel_rfl)).symm.trans h0_) (by decide), Q_X1_, Q_X4_, Q_X5_, Q_X8_, Q_X9_, Q_X12_, Q_X13_, fun _ => rfl, fun h0_ => absurd ((hoff 17 (by kernel_rfl)).symm.trans h0_) (by decide), fun h0_ => absurd ((hoff 18 (by kernel_rfl)).symm.trans h0_) (by decide), fun h0_ => absurd ((hoff 19 (by kernel_rfl)).symm.trans h0_) (by decide), fun h0_ => absurd ((hoff 20 (by kernel_rfl)).symm.trans h0_) (by decide)⟩
          refine steps_cons ?_ ?_
          · rintro b a w' ⟨y1_, y5_, y9_, y13_, A4_, d4_, A8_, d8_, A12_, d12_, A16_, d16_, y18_, W0_, A19_, n19_, c19_, m1_, m4_, m5_, m8_, m9_, m12_, m13_, m16_, m17_, m18_, m19_, m20_, ha, Q_HB, Q_HS, Q_RL1, Q_RR4, Q_RL5, Q_RR8, Q_RL9, Q_RR12, Q_RL13, Q_RR16, Q_P18, Q_HS2, Q_X1_, Q_X4_, Q_X5_, Q_X8_, Q_X9_, Q_X12_, Q_X13_, Q_X16_, Q_X17_, Q_X18_, Q_X19_, Q_X20_⟩ hb_ hon hoff
            refine ⟨_, rfl, fun K hK => ?_⟩
            have e22 : a.tmps[22]? = some (m4_) := by rw [ha]; exact putSel_on (e := (4, 22, m4_)) 2 rfl rfl (hon 4 (by kernel_rfl)) rfl
            rw [Q_X4_ (hon 4 (by kernel_rfl))] at e22
            have e26 : a.tmps[26]? = some (m8_) := by rw [ha]; exact putSel_on (e := (8, 26, m8_)) 5 rfl rfl (hon 8 (by kernel_rfl)) rfl
            rw [Q_X8_ (hon 8 (by kernel_rfl))] at e26
            have e30 : a.tmps[30]? = some (m12_) := by rw [ha]; exact putSel_on (e := (12, 30, m12_)) 8 rfl rfl (hon 12 (by kernel_rfl)) rfl
            rw [Q_X12_ (hon 12 (by kernel_rfl))] at e30
            have e34 : a.tmps[34]? = some (m16_) := by rw [ha]; exact putSel_on (e := (16, 34, m16_)) 11 rfl rfl (hon 16 (by kernel_rfl)) rfl
            rw [Q_X16_ (hon 16 (by kernel_rfl))] at e34
            replace ha := Aside0.mk ha
            have HB := Aside0.mk Q_HB
            have HS := Aside0.mk (Q_HS (hoff 19 (by kernel_rfl)))
            have RR4 := Aside0.mk (Q_RR4 (hon 4 (by kernel_rfl)) (hoff 19 (by kernel_rfl)))
            have RR8 := Aside0.mk (Q_RR8 (hon 8 (by kernel_rfl)) (hoff 19 (by kernel_rfl)))
            have RR12 := Aside0.mk (Q_RR12 (hon 12 (by kernel_rfl)) (hoff 19 (by kernel_rfl)))
            have RR16 := Aside0.mk (Q_RR16 (hon 16 (by kernel_rfl)) (hoff 19 (by kernel_rfl)))
            refine value_ (w1 := w') (v := .agg #[.slice A4_ G.f0.length d4_, .slice A8_ G.f1.length d8_, .slice A12_ G.f2.length d12_, .slice A16_ G.f3.length d16_]) (by rfl) rfl ?_ ?_
            · go_simp
              (try simp only [i64_w])
              try rfl
            refine hK.out _ _ ⟨y1_, y5_, y9_, y13_, A4_, d4_, A8_, d8_, A12_, d12_, A16_, d16_, y18_, W0_, A19_, n19_, c19_, m1_, m4_, m5_, m8_, m9_, m12_, m13_, m16_, (.agg #[.slice A4_ G.f0.length d4_, .slice A8_ G.f1.length d8_, .slice A12_ G.f2.length d12_, .slice A16_ G.f3.length d16_]), m18_, m19_, m20_, (by rw [ha.out]; exact putSel_upk 12 hb_ rfl rfl rfl), Q_HB, Q_HS, fun _ h1_ => absurd ((hon 4 (by kernel_rfl)).symm.trans h1_) (by decide), Q_RR4, fun _ h1_ => absurd ((hon 8 (by kernel_rfl)).symm.trans h1_) (by decide), Q_RR8, fun _ h1_ => absurd ((hon 12 (by kernel_rfl)).symm.trans h1_) (by decide), Q_RR12, fun _ h1_ => absurd ((hon 16 (by kernel_rfl)).symm.trans h1_) (by decide), Q_RR16, fun h0_ _ => absurd ((hoff 18 (by kernel_rfl)).symm.trans h0_) (by decide), fun h0_ => absurd ((hoff 19 (by kernel_rfl)).symm.trans h0_) (by decide), Q_X1_, Q_X4_, Q_X5_, Q_X8_, Q_X9_, Q_X12_, Q_X13_, Q_X16_, fun _ => rfl, fun h0_ => absurd ((hoff 18 (by kernel_rfl)).symm.trans h0_) (by decide), fun h0_ => absurd ((hoff 19 (by kernel_rfl)).symm.trans h0_) (by decide), fun h0_ => absurd ((hoff 20 (by kernel_rfl)).symm.trans h0_) (by decide)⟩
          refine steps_cons ?_ ?_
          · rintro b a w' ⟨y1_, y5_, y9_, y13_, A4_, d4_, A8_, d8_, A12_, d12_, A16_, d16_, y18_, W0_, A19_, n19_, c19_, m1_, m4_, m5_, m8_, m9_, m12_, m13_, m16_, m17_, m18_, m19_, m20_, ha, Q_HB, Q_HS, Q_RL1, Q_RR4, Q_RL5, Q_RR8, Q_RL9, Q_RR12, Q_RL13, Q_RR16, Q_P18, Q_HS2, Q_X1_, Q_X4_, Q_X5_, Q_X8_, Q_X9_, Q_X12_, Q_X13_, Q_X16_, Q_X17_, Q_X18_, Q_X19_, Q_X20_⟩ hb_ hon hoff
            refine ⟨_, rfl, fun K hK => ?_⟩
            have e35 : a.tmps[35]? = some (m17_) := by rw [ha]; exact putSel_on (e := (17, 35, m17_)) 12 rfl rfl (hon 17 (by kernel_rfl)) rfl
            rw [Q_X17_ (hon 17 (by kernel_rfl))] at e35
            replace ha := Aside0.mk ha
            have HB := Aside0.mk Q_HB
            have HS := Aside0.mk (Q_HS (hoff 19 (by kernel_rfl)))
            have RR4 := Aside0.mk (Q_RR4 (hon 4 (by kernel_rfl)) (hoff 19 (by kernel_rfl)))
            have RR8 := Aside0.mk (Q_RR8 (hon 8 (by kernel_rfl)) (hoff 19 (by kernel_rfl)))
            have RR12 := Aside0.mk (Q_RR12 (hon 12 (by kernel_rfl)) (hoff 19 (by kernel_rfl)))
            have RR16 := Aside0.mk (Q_RR16 (hon 16 (by kernel_rfl)) (hoff 19 (by kernel_rfl)))
            have hb : Below w'.heap.size w' (w'.alloc (.cells #[.slice A4_ G.f0.length d4_, .slice A8_ G.f1.length d8_, .slice A12_ G.f2.length d12_, .slice A16_ G.f3.length d16_] 59)) := below_alloc (Below.refl _ _) _
            have hM := k59_mkM w' w.heap.size (fun z => g5 < z) G RR4.out RR8.out RR12.out RR16.out
            refine value_ (w1 := w'.alloc (.cells #[.slice A4_ G.f0.length d4_, .slice A8_ G.f1.length d8_, .slice A12_ G.f2.length d12_, .slice A16_ G.f3.length d16_] 59)) (v := .slice (some ⟨w'.heap.size, 0, none⟩) 1 1) (by rfl) rfl (by first | (go_simp; done) | (go_simp; rfl)) ?_
            refine hK.out _ _ ⟨y1_, y5_, y9_, y13_, A4_, d4_, A8_, d8_, A12_, d12_, A16_, d16_, w'.heap.size, w', A19_, n19_, c19_, m1_, m4_, m5_, m8_, m9_, m12_, m13_, m16_, m17_, (.slice (some ⟨w'.heap.size, 0, none⟩) 1 1), m19_, m20_, (by rw [ha.out]; exact putSel_upk 13 hb_ rfl rfl rfl), HB.out.below hb, fun _ => Kd.S_below HS.out hb, fun _ h1_ => absurd ((hon 4 (by kernel_rfl)).symm.trans h1_) (by decide), fun _ _ => Kd.R_below RR4.out hb, fun _ h1_ => absurd ((hon 8 (by kernel_rfl)).symm.trans h1_) (by decide), fun _ _ => Kd.R_below RR8.out hb, fun _ h1_ => absurd ((hon 12 (by kernel_rfl)).symm.trans h1_) (by decide), fun _ _ => Kd.R_below RR12.out hb, fun _ h1_ => absurd ((hon 16 (by kernel_rfl)).symm.trans h1_) (by decide), fun _ _ => Kd.R_below RR16.out hb, fun _ _ => ⟨rfl, rfl, HB.out, HS.out, hM⟩, fun h0_ => absurd ((hoff 19 (by kernel_rfl)).symm.trans h0_) (by decide), Q_X1_, Q_X4_, Q_X5_, Q_X8_, Q_X9_, Q_X12_, Q_X13_, Q_X16_, Q_X17_, fun _ => rfl, fun h0_ => absurd ((hoff 19 (by kernel_rfl)).symm.trans h0_) (by decide), fun h0_ => absurd ((hoff 20 (by kernel_rfl)).symm.trans h0_) (by decide)⟩
          refine steps_cons ?_ ?_
          · rintro b a w' ⟨y1_, y5_, y9_, y13_, A4_, d4_, A8_, d8_, A12_, d12_, A16_, d16_, y18_, W0_, A19_, n19_, c19_, m1_, m4_, m5_, m8_, m9_, m12_, m13_, m16_, m17_, m18_, m19_, m20_, ha, Q_HB, Q_HS, Q_RL1, Q_RR4, Q_RL5, Q_RR8, Q_RL9, Q_RR12, Q_RL13, Q_RR16, Q_P18, Q_HS2, Q_X1_, Q_X4_, Q_X5_, Q_X8_, Q_X9_, Q_X12_, Q_X13_, Q_X16_, Q_X17_, Q_X18_, Q_X19_, Q_X20_⟩ hb_ hon hoff
            refine ⟨_, rfl, fun K hK => ?_⟩
            have e18 : a.tmps[18]? = some (.slice A3 n3 c3) := by rw [ha]; exact (putSel_off rfl).trans rfl
            have e36 : a.tmps[36]? = some (m18_) := by rw [ha]; exact putSel_on (e := (18, 36, m18_)) 13 rfl rfl (hon 18 (by kernel_rfl)) rfl
            rw [Q_X18_ (hon 18 (by kernel_rfl))] at e36
            replace ha := Aside0.mk ha
            have HB := Aside0.mk Q_HB
            have HS := Aside0.mk (Q_HS hb_)
            have RR4 := Aside0.mk (Q_RR4 (hon 4 (by kernel_rfl)) hb_)
            have RR8 := Aside0.mk (Q_RR8 (hon 8 (by kernel_rfl)) hb_)
            have RR12 := Aside0.mk (Q_RR12 (hon 12 (by kernel_rfl)) hb_)
            have RR16 := Aside0.mk (Q_RR16 (hon 16 (by kernel_rfl)) hb_)
            have P18 := Aside0.mk (Q_P18 (hon 18 (by kernel_rfl)) hb_)
            obtain ⟨hw_, hy_, hB_, hS_, hM_⟩ := P18.out
            rw [hy_] at e36
            rw [hw_]
            refine Kd.S_append_step k59 (w0 := w) w.heap.size (by rfl) (.tmp 18) (.tmp 36) 25 59 (.agg #[(.slice none 0 0), (.slice none 0 0), (.slice none 0 0), (.slice none 0 0)]) 96 rfl Try.underlying25 info59 rfl (by decide) (by omega) (.slice A3 n3 c3) xs G [.slice A4_ G.f0.length d4_, .slice A8_ G.f1.length d8_, .slice A12_ G.f2.length d12_, .slice A16_ G.f3.length d16_] (fun k => w.heap.size + 1 < k) (fun k => g5 < k) (eval_of e18) (eval_of e36) hM_ (fun k hk => ⟨Nat.lt_trans HG1.out hk, fun e_ => absurd ((Kd.S_R hS_).1 k e_.symm).2 (by omega)⟩) (fun k hk => Nat.lt_trans HG1.out (Nat.lt_of_lt_of_le (blk_lt hB_.x) hk)) (Kd.S_mono hS_ (fun k hk => ⟨hk.1, by omega⟩)) hB_.b hB_.b.size (by have := HXS.out; omega) ?_
            intro vN w1 hS2 hb1 hg hat
            obtain ⟨AN, dN, hvN⟩ := Kd.S_slice hS2
            subst hvN
            have hB2 : OwB w a0_0 a0_1 (some ad) l0_2.length c0_2 g5 #[.slice X0 G.f0.length c0, .slice X1 G.f1.length c1, .slice X2 G.f2.length c2, .slice X3 G.f3.length c3'] w1 := hB_.grown hb1 hg (fun k hk => ((Kd.S_R hS_).1 k hk))
            refine hK.out _ _ ⟨y1_, y5_, y9_, y13_, A4_, d4_, A8_, d8_, A12_, d12_, A16_, d16_, y18_, W0_, AN, (xs ++ [G]).length, dN, m1_, m4_, m5_, m8_, m9_, m12_, m13_, m16_, m17_, m18_, (.slice AN (xs ++ [G]).length dN), m20_, (by rw [ha.out]; exact putSel_upk 14 hb_ rfl rfl rfl), hB2, fun h0_ => absurd ((up_self b 19).symm.trans h0_) (by decide), fun _ h1_ => absurd ((hon 4 (by kernel_rfl)).symm.trans h1_) (by decide), fun _ h1_ => absurd ((up_self b 19).symm.trans h1_) (by decide), fun _ h1_ => absurd ((hon 8 (by kernel_rfl)).symm.trans h1_) (by decide), fun _ h1_ => absurd ((up_self b 19).symm.trans h1_) (by decide), fun _ h1_ => absurd ((hon 12 (by kernel_rfl)).symm.trans h1_) (by decide), fun _ h1_ => absurd ((up_self b 19).symm.trans h1_) (by decide), fun _ h1_ => absurd ((hon 16 (by kernel_rfl)).symm.trans h1_) (by decide), fun _ h1_ => absurd ((up_self b 19).symm.trans h1_) (by decide), fun _ h1_ => absurd ((up_self b 19).symm.trans h1_) (by decide), fun _ => hS2, Q_X1_, Q_X4_, Q_X5_, Q_X8_, Q_X9_, Q_X12_, Q_X13_, Q_X16_, Q_X17_, Q_X18_, fun _ => rfl, fun h0_ => absurd ((hoff 20 (by kernel_rfl)).symm.trans h0_) (by decide)⟩
          refine steps_cons ?_ ?_
          · rintro b a w' ⟨y1_, y5_, y9_, y13_, A4_, d4_, A8_, d8_, A12_, d12_, A16_, d16_, y18_, W0_, A19_, n19_, c19_, m1_, m4_, m5_, m8_, m9_, m12_, m13_, m16_, m17_, m18_, m19_, m20_, ha, Q_HB, Q_HS, Q_RL1, Q_RR4, Q_RL5, Q_RR8, Q_RL9, Q_RR12, Q_RL13, Q_RR16, Q_P18, Q_HS2, Q_X1_, Q_X4_, Q_X5_, Q_X8_, Q_X9_, Q_X12_, Q_X13_, Q_X16_, Q_X17_, Q_X18_, Q_X19_, Q_X20_⟩ hb_ hon hoff
            refine ⟨_, rfl, fun K hK => ?_⟩
            have e37 : a.tmps[37]? = some (m19_) := by rw [ha]; exact putSel_on (e := (19, 37, m19_)) 14 rfl rfl (hon 19 (by kernel_rfl)) rfl
            rw [Q_X19_ (hon 19 (by kernel_rfl))] at e37
            replace ha := Aside0.mk ha
            have HB := Aside0.mk Q_HB
            have HS2 := Aside0.mk (Q_HS2 (hon 19 (by kernel_rfl)))
            refine value_ (w1 := w') (v := .slice A19_ n19_ c19_) (by rfl) rfl ?_ ?_
            · go_simp
              (try simp only [i64_w])
              try rfl
            refine hK.out _ _ ⟨y1_, y5_, y9_, y13_, A4_, d4_, A8_, d8_, A12_, d12_, A16_, d16_, y18_, W0_, A19_, n19_, c19_, m1_, m4_, m5_, m8_, m9_, m12_, m13_, m16_, m17_, m18_, m19_, (.slice A19_ n19_ c19_), (by rw [ha.out]; exact putSel_upk 15 hb_ rfl rfl rfl), Q_HB, fun h0_ => absurd ((hon 19 (by kernel_rfl)).symm.trans h0_) (by decide), fun _ h1_ => absurd ((hon 4 (by kernel_rfl)).symm.trans h1_) (by decide), fun _ h1_ => absurd ((hon 19 (by kernel_rfl)).symm.trans h1_) (by decide), fun _ h1_ => absurd ((hon 8 (by kernel_rfl)).symm.trans h1_) (by decide), fun _ h1_ => absurd ((hon 19 (by kernel_rfl)).symm.trans h1_) (by decide), fun _ h1_ => absurd ((hon 12 (by kernel_rfl)).symm.trans h1_) (by decide), fun _ h1_ => absurd ((hon 19 (by kernel_rfl)).symm.trans h1_) (by decide), fun _ h1_ => absurd ((hon 16 (by kernel_rfl)).symm.trans h1_) (by decide), fun _ h1_ => absurd ((hon 19 (by kernel_rfl)).symm.trans h1_) (by decide), fun _ h1_ => absurd ((hon 19 (by kernel_rfl)).symm.trans h1_) (by decide), Q_HS2, Q_X1_, Q_X4_, Q_X5_, Q_X8_, Q_X9_, Q_X12_, Q_X13_, Q_X16_, Q_X17_, Q_X18_, Q_X19_, fun _ => rfl⟩
          exact steps_nil
        · rintro b a w' hall ⟨y1_, y5_, y9_, y13_, A4_, d4_, A8_, d8_, A12_, d12_, A16_, d16_, y18_, W0_, A19_, n19_, c19_, m1_, m4_, m5_, m8_, m9_, m12_, m13_, m16_, m17_, m18_, m19_, m20_, ha, Q_HB, Q_HS, Q_RL1, Q_RR4, Q_RL5, Q_RR8, Q_RL9, Q_RR12, Q_RL13, Q_RR16, Q_P18, Q_HS2, Q_X1_, Q_X4_, Q_X5_, Q_X8_, Q_X9_, Q_X12_, Q_X13_, Q_X16_, Q_X17_, Q_X18_, Q_X19_, Q_X20_⟩
          clear HB HS
          have hb1_ := hall 1 (by kernel_rfl)
          have hb3_ := hall 3 (by kernel_rfl)
          have hb4_ := hall 4 (by kernel_rfl)
          have hb5_ := hall 5 (by kernel_rfl)
          have hb7_ := hall 7 (by kernel_rfl)
          have hb8_ := hall 8 (by kernel_rfl)
          have hb9_ := hall 9 (by kernel_rfl)
          have hb11_ := hall 11 (by kernel_rfl)
          have hb12_ := hall 12 (by kernel_rfl)
          have hb13_ := hall 13 (by kernel_rfl)
          have hb15_ := hall 15 (by kernel_rfl)
          have hb16_ := hall 16 (by kernel_rfl)
          have hb17_ := hall 17 (by kernel_rfl)
          have hb18_ := hall 18 (by kernel_rfl)
          have hb19_ := hall 19 (by kernel_rfl)
          have hb20_ := hall 20 (by kernel_rfl)
          subst ha
          obtain rfl := Q_X1_ hb1_
          obtain rfl := Q_X4_ hb4_
          obtain rfl := Q_X5_ hb5_
          obtain rfl := Q_X8_ hb8_
          obtain rfl := Q_X9_ hb9_
          obtain rfl := Q_X12_ hb12_
          obtain rfl := Q_X13_ hb13_
          obtain rfl := Q_X16_ hb16_
          obtain rfl := Q_X17_ hb17_
          obtain rfl := Q_X18_ hb18_
          obtain rfl := Q_X19_ hb19_
          obtain rfl := Q_X20_ hb20_
          simp only [putSel, hb1_, hb3_, hb4_, hb5_, hb7_, hb8_, hb9_, hb11_, hb12_, hb13_, hb15_, hb16_, hb17_, hb18_, hb19_, hb20_, if_true, Act.put, List.setIfInBounds_toArray, List.set_cons_zero, List.set_cons_succ]
          have HB := Aside0.mk Q_HB
          clear Q_HB
          clear Q_HS
          clear Q_RL1
          clear Q_RR4
          clear Q_RL5
          clear Q_RR8
          clear Q_RL9
          clear Q_RR12
          clear Q_RL13
          clear Q_RR16
          clear Q_P18
          have HS2 := Aside0.mk (Q_HS2 hb19_)
          clear Q_HS2
          clear hall hb1_ hb3_ hb4_ hb5_ hb7_ hb8_ hb9_ hb11_ hb12_ hb13_ hb15_ hb16_ hb17_ hb18_ hb19_ hb20_
          go_wp2
          go_roundg (l0_2.length - i - 1)
          case measure => omega
          case rel => exact ⟨i + 1, A19_, n19_, c19_, by simp, rfl, by omega, ⟨HB.out.two⟩, ⟨by rw [HN.out]; exact HS2.out⟩⟩
      · have cb : decide ((i : Int) < (l0_2.length : Int)) = false := decide_eq_false (by omega)
        obtain rfl : i = l0_2.length := by omega
        have ha0 : wr.cell? ⟨w.heap.size, 0, none⟩ = some (.int .i64 a0_0) := (blk_cell HI.out.b1 0).trans rfl
        have ha1 : wr.cell? ⟨w.heap.size, 1, none⟩ = some (.int .i64 a0_1) := (blk_cell HI.out.b1 1).trans rfl
        have hz0 : wr.cell? ⟨w.heap.size + 1, 0, none⟩ = some (.int .i64 0) := (blk_cell HI.out.b2 0).trans rfl
        have hz1 : wr.cell? ⟨w.heap.size + 1, 1, none⟩ = some (.int .i64 0) := (blk_cell HI.out.b2 1).trans rfl
        have hz2 : wr.cell? ⟨w.heap.size + 1, 2, none⟩ = some (.slice none 0 0) := (blk_cell HI.out.b2 2).trans rfl
        have fa2 := blk_frozen HI.out.b1 2
        have fz0 := blk_frozen HI.out.b2 0
        have fz1 := blk_frozen HI.out.b2 1
        have fz2 := blk_frozen HI.out.b2 2
        have hS := HS0.out
        rw [List.take_of_length_le (Nat.le_refl _)] at hS
        have hok : ∀ k, w.heap.size + 1 < k → k ≠ w.heap.size + 1 := fun k hk => by omega
        have hok0 : ∀ k, w.heap.size + 1 < k → k ≠ w.heap.size := fun k hk => by omega
        have HSF := fun (x0 x1 x2 x3 : Value) => Aside0.mk (Kd.S_mono (Kd.S_far (p := ⟨w.heap.size + 1, 2, none⟩) (Kd.S_far (p := ⟨w.heap.size + 1, 1, none⟩) (Kd.S_far (p := ⟨w.heap.size + 1, 0, none⟩) (Kd.S_far (p := ⟨w.heap.size, 2, none⟩) hS hok0 x0) hok x1) hok x2) hok x3) (ok' := fun _ => True) (fun _ _ => trivial))
        clear hS hok hok0
        go_wp2
        exact bodyPost_ret (v := .agg #[.int .i64 a0_0, .int .i64 a0_1, .slice A3 n3 c3]) (by simp [results, Try.results16, go_sem, hz0, hz1, hz2, fz0, fz1, fz2]) rfl ⟨_, rfl, (HSF _ _ _ _).out, below_set (below_set (below_set (below_set HI.out.bl (Nat.le_refl _)) (Nat.le_succ _)) (Nat.le_succ _)) (Nat.le_succ _)⟩
  · rw [if_neg hcond] at h
    exact absurd h (by simp)

/-! ### graft_Check: function 19 -/
/-- Two boxes of the call's own, and all else below as it was. -/
structure TwoBlk (w : World) (g1 g2 t1 t2 : Nat) (c1 c2 : Array Value) (W : World) : Prop where
  b1 : W.heap[g1]? = some (.cells c1 t1 (0, 0))
  b2 : W.heap[g2]? = some (.cells c2 t2 (0, 0))
  bl : Below w.heap.size w W
theorem TwoBlk.below {w W W1 : World} {g1 g2 t1 t2 : Nat} {c1 c2 : Array Value} (h : TwoBlk w g1 g2 t1 t2 c1 c2 W) (hb : Below W.heap.size W W1) : TwoBlk w g1 g2 t1 t2 c1 c2 W1 := ⟨blk_below h.b1 hb, blk_below h.b2 hb, below_step h.bl hb⟩
theorem TwoBlk.drewN {w W : World} {g1 g2 t1 t2 : Nat} {c1 c2 : Array Value} (h : TwoBlk w g1 g2 t1 t2 c1 c2 W) (n : Nat) : TwoBlk w g1 g2 t1 t2 c1 c2 (W.drewN n) := ⟨blk_drewN h.b1 n, blk_drewN h.b2 n, pw_below_drewN h.bl n⟩
theorem TwoBlk.start (w : World) (t1 t2 : Nat) (c1 c2 : Array Value) : TwoBlk w w.heap.size (w.heap.size + 1) t1 t2 c1 c2 ((w.alloc (.cells c1 t1)).alloc (.cells c2 t2)) := by
  refine ⟨blk_alloc (blk_new w _) _, ?_, below_alloc (below_alloc (Below.refl _ _) _) _⟩
  have h := blk_new (w.alloc (.cells c1 t1)) (.cells c2 t2)
  simp only [World.size_alloc] at h
  exact h
set_option maxHeartbeats 8000000 in
set_option maxRecDepth 100000 in
theorem graft_lists.calls (p : Addr) (w : World) :
    Calls Try.prog 29 #[.pointer (some p)] w fun e w' => e = .returned (.agg #[.pointer (some p), .pointer (some ⟨p.block, p.off + 1, none⟩), .pointer (some ⟨p.block, p.off + 2, none⟩), .pointer (some ⟨p.block, p.off + 3, none⟩)]) ∧ Below w.heap.size w w' := by
  have hu59 := Try.underlying59
  go_enter Try.func29, Try.ntmps29
  go_wp2
  have hb := below_alloc (Below.refl w.heap.size w) (.cells #[.pointer none, .pointer none, .pointer none, .pointer none] 55)
  have hbox := blk_new w (.cells #[.pointer none, .pointer none, .pointer none, .pointer none] 55)
  generalize w.alloc (.cells #[.pointer none, .pointer none, .pointer none, .pointer none] 55) = w1 at hb hbox ⊢
  obtain ⟨gb, hg⟩ : ∃ g, g = w.heap.size := ⟨_, rfl⟩
  rw [← hg] at hbox
  have HG := Aside0.mk hg
  simp only [← HG.out]
  clear hg
  go_still_tail 13, (by kernel_rfl)
  change wpList _ _ _ _ _ w1.drew
  have hb2 : Below w.heap.size w w1.drew := below_drew1 hb
  have hbox2 : w1.drew.heap[gb]? = some (.cells #[.pointer none, .pointer none, .pointer none, .pointer none] 55 (0, 0)) := hbox
  clear hb hbox
  generalize w1.drew = w2 at hb2 hbox2 ⊢
  have HB := Aside0.mk hb2
  have BK := Aside0.mk hbox2
  clear hb2 hbox2
  have hx0 := (blk_cell BK.out 0).trans rfl
  have hx1 := (blk_cell BK.out 1).trans rfl
  have hx2 := (blk_cell BK.out 2).trans rfl
  have hx3 := (blk_cell BK.out 3).trans rfl
  have hf0 := blk_frozen BK.out 0
  have hf1 := blk_frozen BK.out 1
  have hf2 := blk_frozen BK.out 2
  have hf3 := blk_frozen BK.out 3
  go_wp2
  have hge : w.heap.size ≤ gb := Nat.le_of_eq HG.out.symm
  have b4 := blk_set (blk_set (blk_set (blk_set BK.out 0 (.pointer (some p))) 1 (.pointer (some ⟨p.block, p.off + 1, none⟩))) 2 (.pointer (some ⟨p.block, p.off + 2, none⟩))) 3 (.pointer (some ⟨p.block, p.off + 3, none⟩))
  exact bodyPost_ret (v := .agg #[.pointer (some p), .pointer (some ⟨p.block, p.off + 1, none⟩), .pointer (some ⟨p.block, p.off + 2, none⟩), .pointer (some ⟨p.block, p.off + 3, none⟩)]) (results_cell_row (fn := Try.f29) rfl _ _ gb 55 _ (0, 0) _ rfl b4 Try.underlying55 rfl (by kernel_rfl)) rfl ⟨rfl, below_set (below_set (below_set (below_set HB.out hge) hge) hge) hge⟩
def fit59 (g : S59) (n : Int) : Bool := decide ((g.f0.length : Int) = n) && (decide ((g.f1.length : Int) = n) && (decide ((g.f2.length : Int) = n) && decide ((g.f3.length : Int) = n)))
theorem idx4_0 (p0 p1 p2 p3 : Option Addr) (W : World) : (Instr.index 55 (.agg #[.pointer p0, .pointer p1, .pointer p2, .pointer p3]) (.int .i64 0)).run Try.prog W = .ok (.pointer p0) W := by kernel_rfl
theorem idx4_1 (p0 p1 p2 p3 : Option Addr) (W : World) : (Instr.index 55 (.agg #[.pointer p0, .pointer p1, .pointer p2, .pointer p3]) (.int .i64 1)).run Try.prog W = .ok (.pointer p1) W := by kernel_rfl
theorem idx4_2 (p0 p1 p2 p3 : Option Addr) (W : World) : (Instr.index 55 (.agg #[.pointer p0, .pointer p1, .pointer p2, .pointer p3]) (.int .i64 2)).run Try.prog W = .ok (.pointer p2) W := by kernel_rfl
theorem idx4_3 (p0 p1 p2 p3 : Option Addr) (W : World) : (Instr.index 55 (.agg #[.pointer p0, .pointer p1, .pointer p2, .pointer p3]) (.int .i64 3)).run Try.prog W = .ok (.pointer p3) W := by kernel_rfl
def fl59 (g : S59) : Nat → List Int
  | 0 => g.f0
  | 1 => g.f1
  | 2 => g.f2
  | _ => g.f3
theorem fit59_of {g : S59} {m : Int} (h0 : ((fl59 g 0).length : Int) = m) (h1 : ((fl59 g 1).length : Int) = m) (h2 : ((fl59 g 2).length : Int) = m) (h3 : ((fl59 g 3).length : Int) = m) : fit59 g m = true := by
  simp only [fl59] at h0 h1 h2 h3
  simp [fit59, h0, h1, h2, h3]
theorem rd_T59_get {l : List S59} {i : Nat} (h : i < l.length) : rd_T59 l (i : Int) = l[i] := by
  unfold rd_T59
  rw [Int.toNat_natCast, List.getD_eq_getElem?_getD, List.getElem?_eq_getElem h]
  rfl
theorem not_all59 {l : List S59} {m : Int} {i j : Nat} (h : i < l.length) (hj : j < 4) (hn : ¬ ((fl59 (rd_T59 l (i : Int)) j).length : Int) = m) : ¬ (l.all fun g => fit59 g m) = true := by
  intro ha
  rw [List.all_eq_true] at ha
  have h1 := ha _ (List.getElem_mem h)
  rw [← rd_T59_get h] at h1
  simp only [fit59, Bool.and_eq_true, decide_eq_true_eq] at h1
  obtain ⟨e0, e1, e2, e3⟩ := h1
  obtain rfl | rfl | rfl | rfl : j = 0 ∨ j = 1 ∨ j = 2 ∨ j = 3 := by omega
  all_goals first | exact hn e0 | exact hn e1 | exact hn e2 | exact hn e3
def graft_Check.f (k : Nat) (a0_0 : Int) (a0_1 : Int) (l0_2 : List (S59)) (a1_0 : Int) (a1_1 : Int) (a1_2 : Int) (a1_3 : Int) (a1_4 : Int) (a1_5 : Int) (a1_6 : Int) (a1_7 : Int) : Option (Int) := (graft_right.f k a0_0 a0_1 a1_0 a1_1 a1_2 a1_3 a1_4 a1_5 a1_6 a1_7).bind fun t => (if t = true then (if (l0_2.length : Int) = a1_2 then (if (l0_2.all fun g => fit59 g (wrap64 (a0_0 * a1_0))) = true then (some 0) else (some 21)) else (some 21)) else (some 20))
theorem graft_Check.mono : ∀ a0 a1 a2 a3 a4 a5 a6 a7 a8 a9 a10 k, LeO (graft_Check.f k a0 a1 a2 a3 a4 a5 a6 a7 a8 a9 a10) (graft_Check.f (k + 1) a0 a1 a2 a3 a4 a5 a6 a7 a8 a9 a10) := by
  intro a0 a1 a2 a3 a4 a5 a6 a7 a8 a9 a10 k
  unfold graft_Check.f
  repeat' first
      | (with_reducible exact LeO.refl _)
      | (with_reducible exact LeO.none _)
      | (with_reducible refine LeO.ite ?_ ?_)
      | (with_reducible exact graft_right.mono _ _ _ _ _ _ _ _ _ _ _)
      | (with_reducible refine LeO.bind ?_ (fun _ => ?_))
set_option maxHeartbeats 8000000 in
set_option maxRecDepth 100000 in
theorem graft_Check.calls (k : Nat) (a0_0 : Int) (a0_1 : Int) (A0_2 : Option Addr) (c0_2 : Nat) (l0_2 : List (S59)) (a1_0 : Int) (a1_1 : Int) (a1_2 : Int) (a1_3 : Int) (a1_4 : Int) (a1_5 : Int) (a1_6 : Int) (a1_7 : Int) (r : Int) (w : World) (hr0_2 : Kd.C k59 w A0_2 l0_2.length l0_2) (hc0_2 : l0_2.length ≤ c0_2) (h : graft_Check.f k a0_0 a0_1 l0_2 a1_0 a1_1 a1_2 a1_3 a1_4 a1_5 a1_6 a1_7 = some r) :
    Calls Try.prog 19 #[.agg #[.int .i64 a0_0, .int .i64 a0_1, .slice A0_2 l0_2.length c0_2], .agg #[.int .i64 a1_0, .int .i64 a1_1, .int .i64 a1_2, .int .i64 a1_3, .int .i64 a1_4, .int .i64 a1_5, .int .i64 a1_6, .int .i64 a1_7]] w fun e w' => e = .returned (.int .i64 r) ∧ Below w.heap.size w w' := by
  have hu23 := Try.underlying23
  have hu27 := Try.underlying27
  have hu25 := Try.underlying25
  have hu59 := Try.underlying59
  have hu55 := Try.underlying55
  have HR := Aside0.mk hr0_2
  clear hr0_2 hc0_2
  have HI0 := Aside0.mk (TwoBlk.start w 27 23 #[.int .i64 a0_0, .int .i64 a0_1, .slice A0_2 l0_2.length c0_2] #[.int .i64 a1_0, .int .i64 a1_1, .int .i64 a1_2, .int .i64 a1_3, .int .i64 a1_4, .int .i64 a1_5, .int .i64 a1_6, .int .i64 a1_7])
  obtain ⟨t, ht, H⟩ := Option.bind_eq_some_iff.mp h
  clear h
  have HT := Aside0.mk ht
  clear ht
  have HW := Aside0.mk H
  clear H
  cases t with
  | false =>
    replace HW : Aside0 (some (20 : Int) = some r) := ⟨by have h := HW.out; simpa using h⟩
    go_enter Try.func19, Try.ntmps19
    go_wp2_with (first | ((with_reducible refine gate_callee (f := 28) rfl ?_); refine goesL_ (some 14) rfl rfl Try.func28 (by kernel_rfl) rfl #[.int .i64 a0_0, .int .i64 a0_1, .agg #[.int .i64 a1_0, .int .i64 a1_1, .int .i64 a1_2, .int .i64 a1_3, .int .i64 a1_4, .int .i64 a1_5, .int .i64 a1_6, .int .i64 a1_7]] rfl (by (try simp only [List.map_toArray, List.map_cons, List.map_nil]); first | done | rfl) ?_; (with_reducible refine (graft_right.calls k a0_0 a0_1 a1_0 a1_1 a1_2 a1_3 a1_4 a1_5 a1_6 a1_7 false _ HT.out).mono ?_); rintro e w1 ⟨rfl, hb⟩; refine ⟨_, rfl, ?_⟩; have HI := Aside0.mk (HI0.out.below hb); clear hb HI0; have ha0 : w1.cell? ⟨w.heap.size, 0, none⟩ = some (.int .i64 a0_0) := (blk_cell HI.out.b1 0).trans rfl; have ha1 : w1.cell? ⟨w.heap.size, 1, none⟩ = some (.int .i64 a0_1) := (blk_cell HI.out.b1 1).trans rfl; have ha2 : w1.cell? ⟨w.heap.size, 2, none⟩ = some (.slice A0_2 l0_2.length c0_2) := (blk_cell HI.out.b1 2).trans rfl; have hc0 : w1.cell? ⟨w.heap.size + 1, 0, none⟩ = some (.int .i64 a1_0) := (blk_cell HI.out.b2 0).trans rfl; have hc2 : w1.cell? ⟨w.heap.size + 1, 2, none⟩ = some (.int .i64 a1_2) := (blk_cell HI.out.b2 2).trans rfl))
    go_ret
    obtain rfl := Option.some.inj HW.out
    exact ⟨rfl, HI.out.bl⟩
  | true =>
    replace HW : Aside0 ((if (l0_2.length : Int) = a1_2 then (if (l0_2.all fun g => fit59 g (wrap64 (a0_0 * a1_0))) = true then (some (0 : Int)) else (some 21)) else (some 21)) = some r) := ⟨by have h := HW.out; simpa using h⟩
    by_cases cl : (l0_2.length : Int) = a1_2
    · have cl1 : ((l0_2.length : Int) == a1_2) = true := beq_iff_eq.mpr cl
      have cl2 : ((l0_2.length : Int) != a1_2) = false := bne_eq_false_iff_eq.mpr cl
      have HCL := Aside0.mk cl
      clear cl
      go_enter Try.func19, Try.ntmps19
      go_wp2_with (first | ((with_reducible refine gate_callee (f := 28) rfl ?_); refine goesL_ (some 14) rfl rfl Try.func28 (by kernel_rfl) rfl #[.int .i64 a0_0, .int .i64 a0_1, .agg #[.int .i64 a1_0, .int .i64 a1_1, .int .i64 a1_2, .int .i64 a1_3, .int .i64 a1_4, .int .i64 a1_5, .int .i64 a1_6, .int .i64 a1_7]] rfl (by (try simp only [List.map_toArray, List.map_cons, List.map_nil]); first | done | rfl) ?_; (with_reducible refine (graft_right.calls k a0_0 a0_1 a1_0 a1_1 a1_2 a1_3 a1_4 a1_5 a1_6 a1_7 true _ HT.out).mono ?_); rintro e w1 ⟨rfl, hb⟩; refine ⟨_, rfl, ?_⟩; have HI := Aside0.mk (HI0.out.below hb); clear hb HI0; have ha0 : w1.cell? ⟨w.heap.size, 0, none⟩ = some (.int .i64 a0_0) := (blk_cell HI.out.b1 0).trans rfl; have ha1 : w1.cell? ⟨w.heap.size, 1, none⟩ = some (.int .i64 a0_1) := (blk_cell HI.out.b1 1).trans rfl; have ha2 : w1.cell? ⟨w.heap.size, 2, none⟩ = some (.slice A0_2 l0_2.length c0_2) := (blk_cell HI.out.b1 2).trans rfl; have hc0 : w1.cell? ⟨w.heap.size + 1, 0, none⟩ = some (.int .i64 a1_0) := (blk_cell HI.out.b2 0).trans rfl; have hc2 : w1.cell? ⟨w.heap.size + 1, 2, none⟩ = some (.int .i64 a1_2) := (blk_cell HI.out.b2 2).trans rfl))
      clear ha0 ha1 ha2 hc0 hc2
      go_loopg [26] l0_2.length (fun kq v26 wr => ∃ i : Nat, v26 = .int .i64 (i : Int) ∧ i + kq = l0_2.length ∧ Aside0 (∀ g ∈ l0_2.take i, fit59 g (wrap64 (a0_0 * a1_0)) = true) ∧ Aside0 (TwoBlk w w.heap.size (w.heap.size + 1) 27 23 #[.int .i64 a0_0, .int .i64 a0_1, .slice A0_2 l0_2.length c0_2] #[.int .i64 a1_0, .int .i64 a1_1, .int .i64 a1_2, .int .i64 a1_3, .int .i64 a1_4, .int .i64 a1_5, .int .i64 a1_6, .int .i64 a1_7] wr))
      case atStart => exact ⟨0, rfl, by omega, ⟨by simp⟩, HI⟩
      case round =>
        obtain ⟨i, rfl, hik, HF, HI2⟩ := hrel
        clear HI
        have HI := HI2
        clear HI2
        have ha0 : wr.cell? ⟨w.heap.size, 0, none⟩ = some (.int .i64 a0_0) := (blk_cell HI.out.b1 0).trans rfl; have ha1 : wr.cell? ⟨w.heap.size, 1, none⟩ = some (.int .i64 a0_1) := (blk_cell HI.out.b1 1).trans rfl; have ha2 : wr.cell? ⟨w.heap.size, 2, none⟩ = some (.slice A0_2 l0_2.length c0_2) := (blk_cell HI.out.b1 2).trans rfl; have hc0 : wr.cell? ⟨w.heap.size + 1, 0, none⟩ = some (.int .i64 a1_0) := (blk_cell HI.out.b2 0).trans rfl; have hc2 : wr.cell? ⟨w.heap.size + 1, 2, none⟩ = some (.int .i64 a1_2) := (blk_cell HI.out.b2 2).trans rfl
        have hlen : (l0_2.length : Int) ≤ 9223372036854775807 := by have := HR.out.2.1; omega
        by_cases ci : i < l0_2.length
        · have cb : decide ((i : Int) < (l0_2.length : Int)) = true := decide_eq_true (by omega)
          have cp := eq_true (show 0 ≤ (i : Int) by omega)
          have cq := eq_true (show (i : Int) < (l0_2.length : Int) by omega)
          obtain ⟨ad, B0, d0, B1, d1, B2, d2, B3, d3, e_, hx0, hx1, hx2, hx3, _⟩ := at_T59 HR.out (i : Int) (by omega) (by omega)
          subst e_
          rw [Int.toNat_natCast] at hx0 hx1 hx2 hx3
          have HX := Aside0.mk (And.intro hx0 (And.intro hx1 (And.intro hx2 hx3)))
          clear hx0 hx1 hx2 hx3
          go_wp2_with (first | ((with_reducible refine gate_callee (f := 29) rfl ?_); refine goesL_ (some 33) rfl rfl Try.func29 (by kernel_rfl) rfl #[.pointer (some (ad.add (i * 4)))] rfl (by (try simp only [List.map_toArray, List.map_cons, List.map_nil]); first | done | rfl) ?_; (with_reducible refine (graft_lists.calls (ad.add (i * 4)) _).mono ?_); rintro e w2 ⟨rfl, hb⟩; refine ⟨_, rfl, ?_⟩; have HI2 := Aside0.mk (HI.out.below hb); clear hb HI; have HI := HI2; clear HI2; clear ha0 ha1 ha2 hc0 hc2; have ha0 : w2.cell? ⟨w.heap.size, 0, none⟩ = some (.int .i64 a0_0) := (blk_cell HI.out.b1 0).trans rfl; have ha1 : w2.cell? ⟨w.heap.size, 1, none⟩ = some (.int .i64 a0_1) := (blk_cell HI.out.b1 1).trans rfl; have ha2 : w2.cell? ⟨w.heap.size, 2, none⟩ = some (.slice (some ad) l0_2.length c0_2) := (blk_cell HI.out.b1 2).trans rfl; have hc0 : w2.cell? ⟨w.heap.size + 1, 0, none⟩ = some (.int .i64 a1_0) := (blk_cell HI.out.b2 0).trans rfl; have hc2 : w2.cell? ⟨w.heap.size + 1, 2, none⟩ = some (.int .i64 a1_2) := (blk_cell HI.out.b2 2).trans rfl))
          clear ha0 ha1 ha2 hc0 hc2
          go_loopg [34] 4 (fun kq v34 wr => ∃ q : Nat, v34 = .int .i64 (q : Int) ∧ q + kq = 4 ∧ Aside0 (∀ j, j < q → ((fl59 (rd_T59 l0_2 (i : Int)) j).length : Int) = wrap64 (a0_0 * a1_0)) ∧ Aside0 (TwoBlk w w.heap.size (w.heap.size + 1) 27 23 #[.int .i64 a0_0, .int .i64 a0_1, .slice (some ad) l0_2.length c0_2] #[.int .i64 a1_0, .int .i64 a1_1, .int .i64 a1_2, .int .i64 a1_3, .int .i64 a1_4, .int .i64 a1_5, .int .i64 a1_6, .int .i64 a1_7] wr))
          case atStart => exact ⟨0, rfl, by omega, ⟨fun j hj => absurd hj (by omega)⟩, HI⟩
          case round =>
            obtain ⟨q, rfl, hqk, HQ, HI2⟩ := hrel
            clear HI
            have HI := HI2
            clear HI2
            have ha0 : wr.cell? ⟨w.heap.size, 0, none⟩ = some (.int .i64 a0_0) := (blk_cell HI.out.b1 0).trans rfl; have ha1 : wr.cell? ⟨w.heap.size, 1, none⟩ = some (.int .i64 a0_1) := (blk_cell HI.out.b1 1).trans rfl; have ha2 : wr.cell? ⟨w.heap.size, 2, none⟩ = some (.slice (some ad) l0_2.length c0_2) := (blk_cell HI.out.b1 2).trans rfl; have hc0 : wr.cell? ⟨w.heap.size + 1, 0, none⟩ = some (.int .i64 a1_0) := (blk_cell HI.out.b2 0).trans rfl; have hc2 : wr.cell? ⟨w.heap.size + 1, 2, none⟩ = some (.int .i64 a1_2) := (blk_cell HI.out.b2 2).trans rfl
            obtain ⟨hx0, hx1, hx2, hx3⟩ := HX.out
            replace hx0 := (HI.out.bl.cell (World.block_lt_of_cell? w _ hx0)).trans hx0
            replace hx1 := (HI.out.bl.cell (World.block_lt_of_cell? w _ hx1)).trans hx1
            replace hx2 := (HI.out.bl.cell (World.block_lt_of_cell? w _ hx2)).trans hx2
            replace hx3 := (HI.out.bl.cell (World.block_lt_of_cell? w _ hx3)).trans hx3
            obtain rfl | rfl | rfl | rfl | rfl : q = 0 ∨ q = 1 ∨ q = 2 ∨ q = 3 ∨ q = 4 := by omega
            · by_cases cf : ((rd_T59 l0_2 (i : Int)).f0.length : Int) = wrap64 (a0_0 * a1_0)
              · have cf1 : (((rd_T59 l0_2 (i : Int)).f0.length : Int) != wrap64 (a0_0 * a1_0)) = false := bne_eq_false_iff_eq.mpr cf
                have CF := Aside0.mk cf
                clear cf
                have ix_ := idx4_0 (some (ad.add (i * 4))) (some ⟨(ad.add (i * 4)).block, (ad.add (i * 4)).off + 1, none⟩) (some ⟨(ad.add (i * 4)).block, (ad.add (i * 4)).off + 2, none⟩) (some ⟨(ad.add (i * 4)).block, (ad.add (i * 4)).off + 3, none⟩)
                go_wp2
                go_quiet (fail)
                go_wp2
                go_roundg 3
                case measure => omega
                case rel =>
                  refine ⟨1, rfl, by omega, ⟨fun j hj => ?_⟩, ⟨HI.out.drewN nq⟩⟩
                  by_cases hj2 : j < 0
                  · exact HQ.out j hj2
                  · obtain rfl : j = 0 := by omega
                    exact CF.out
              · have cf1 : (((rd_T59 l0_2 (i : Int)).f0.length : Int) != wrap64 (a0_0 * a1_0)) = true := bne_iff_ne.mpr cf
                have CF := Aside0.mk cf
                clear cf
                have ix_ := idx4_0 (some (ad.add (i * 4))) (some ⟨(ad.add (i * 4)).block, (ad.add (i * 4)).off + 1, none⟩) (some ⟨(ad.add (i * 4)).block, (ad.add (i * 4)).off + 2, none⟩) (some ⟨(ad.add (i * 4)).block, (ad.add (i * 4)).off + 3, none⟩)
                go_wp2
                go_quiet (fail)
                go_wp2
                go_ret
                refine ⟨?_, pw_below_drewN HI.out.bl nq⟩
                have h := HW.out
                rw [if_pos HCL.out, if_neg (not_all59 (i := i) (j := 0) ci (by omega) CF.out)] at h
                obtain rfl := Option.some.inj h
                rfl
            · by_cases cf : ((rd_T59 l0_2 (i : Int)).f1.length : Int) = wrap64 (a0_0 * a1_0)
              · have cf1 : (((rd_T59 l0_2 (i : Int)).f1.length : Int) != wrap64 (a0_0 * a1_0)) = false := bne_eq_false_iff_eq.mpr cf
                have CF := Aside0.mk cf
                clear cf
                have ix_ := idx4_1 (some (ad.add (i * 4))) (some ⟨(ad.add (i * 4)).block, (ad.add (i * 4)).off + 1, none⟩) (some ⟨(ad.add (i * 4)).block, (ad.add (i * 4)).off + 2, none⟩) (some ⟨(ad.add (i * 4)).block, (ad.add (i * 4)).off + 3, none⟩)
                go_wp2
                go_quiet (fail)
                go_wp2
                go_roundg 2
                case measure => omega
                case rel =>
                  refine ⟨2, rfl, by omega, ⟨fun j hj => ?_⟩, ⟨HI.out.drewN nq⟩⟩
                  by_cases hj2 : j < 1
                  · exact HQ.out j hj2
                  · obtain rfl : j = 1 := by omega
                    exact CF.out
              · have cf1 : (((rd_T59 l0_2 (i : Int)).f1.length : Int) != wrap64 (a0_0 * a1_0)) = true := bne_iff_ne.mpr cf
                have CF := Aside0.mk cf
                clear cf
                have ix_ := idx4_1 (some (ad.add (i * 4))) (some ⟨(ad.add (i * 4)).block, (ad.add (i * 4)).off + 1, none⟩) (some ⟨(ad.add (i * 4)).block, (ad.add (i * 4)).off + 2, none⟩) (some ⟨(ad.add (i * 4)).block, (ad.add (i * 4)).off + 3, none⟩)
                go_wp2
                go_quiet (fail)
                go_wp2
                go_ret
                refine ⟨?_, pw_below_drewN HI.out.bl nq⟩
                have h := HW.out
                rw [if_pos HCL.out, if_neg (not_all59 (i := i) (j := 1) ci (by omega) CF.out)] at h
                obtain rfl := Option.some.inj h
                rfl
            · by_cases cf : ((rd_T59 l0_2 (i : Int)).f2.length : Int) = wrap64 (a0_0 * a1_0)
              · have cf1 : (((rd_T59 l0_2 (i : Int)).f2.length : Int) != wrap64 (a0_0 * a1_0)) = false := bne_eq_false_iff_eq.mpr cf
                have CF := Aside0.mk cf
                clear cf
                have ix_ := idx4_2 (some (ad.add (i * 4))) (some ⟨(ad.add (i * 4)).block, (ad.add (i * 4)).off + 1, none⟩) (some ⟨(ad.add (i * 4)).block, (ad.add (i * 4)).off + 2, none⟩) (some ⟨(ad.add (i * 4)).block, (ad.add (i * 4)).off + 3, none⟩)
                go_wp2
                go_quiet (fail)
                go_wp2
                go_roundg 1
                case measure => omega
                case rel =>
                  refine ⟨3, rfl, by omega, ⟨fun j hj => ?_⟩, ⟨HI.out.drewN nq⟩⟩
                  by_cases hj2 : j < 2
                  · exact HQ.out j hj2
                  · obtain rfl : j = 2 := by omega
                    exact CF.out
              · have cf1 : (((rd_T59 l0_2 (i : Int)).f2.length : Int) != wrap64 (a0_0 * a1_0)) = true := bne_iff_ne.mpr cf
                have CF := Aside0.mk cf
                clear cf
                have ix_ := idx4_2 (some (ad.add (i * 4))) (some ⟨(ad.add (i * 4)).block, (ad.add (i * 4)).off + 1, none⟩) (some ⟨(ad.add (i * 4)).block, (ad.add (i * 4)).off + 2, none⟩) (some ⟨(ad.add (i * 4)).block, (ad.add (i * 4)).off + 3, none⟩)
                go_wp2
                go_quiet (fail)
                go_wp2
                go_ret
                refine ⟨?_, pw_below_drewN HI.out.bl nq⟩
                have h := HW.out
                rw [if_pos HCL.out, if_neg (not_all59 (i := i) (j := 2) ci (by omega) CF.out)] at h
                obtain rfl := Option.some.inj h
                rfl
            · by_cases cf : ((rd_T59 l0_2 (i : Int)).f3.length : Int) = wrap64 (a0_0 * a1_0)
              · have cf1 : (((rd_T59 l0_2 (i : Int)).f3.length : Int) != wrap64 (a0_0 * a1_0)) = false := bne_eq_false_iff_eq.mpr cf
                have CF := Aside0.mk cf
                clear cf
                have ix_ := idx4_3 (some (ad.add (i * 4))) (some ⟨(ad.add (i * 4)).block, (ad.add (i * 4)).off + 1, none⟩) (some ⟨(ad.add (i * 4)).block, (ad.add (i * 4)).off + 2, none⟩) (some ⟨(ad.add (i * 4)).block, (ad.add (i * 4)).off + 3, none⟩)
                go_wp2
                go_quiet (fail)
                go_wp2
                go_roundg 0
                case measure => omega
                case rel =>
                  refine ⟨4, rfl, by omega, ⟨fun j hj => ?_⟩, ⟨HI.out.drewN nq⟩⟩
                  by_cases hj2 : j < 3
                  · exact HQ.out j hj2
                  · obtain rfl : j = 3 := by omega
                    exact CF.out
              · have cf1 : (((rd_T59 l0_2 (i : Int)).f3.length : Int) != wrap64 (a0_0 * a1_0)) = true := bne_iff_ne.mpr cf
                have CF := Aside0.mk cf
                clear cf
                have ix_ := idx4_3 (some (ad.add (i * 4))) (some ⟨(ad.add (i * 4)).block, (ad.add (i * 4)).off + 1, none⟩) (some ⟨(ad.add (i * 4)).block, (ad.add (i * 4)).off + 2, none⟩) (some ⟨(ad.add (i * 4)).block, (ad.add (i * 4)).off + 3, none⟩)
                go_wp2
                go_quiet (fail)
                go_wp2
                go_ret
                refine ⟨?_, pw_below_drewN HI.out.bl nq⟩
                have h := HW.out
                rw [if_pos HCL.out, if_neg (not_all59 (i := i) (j := 3) ci (by omega) CF.out)] at h
                obtain rfl := Option.some.inj h
                rfl
            · go_wp2
              go_roundg (l0_2.length - i - 1)
              case measure => omega
              case rel =>
                refine ⟨i + 1, by simp, by omega, ⟨fun g hg => ?_⟩, HI⟩
                rw [List.take_succ_eq_append_getElem ci, List.mem_append, List.mem_singleton] at hg
                rcases hg with hg | rfl
                · exact HF.out g hg
                · have e_ := rd_T59_get ci
                  have h := HQ.out
                  rw [e_] at h
                  exact fit59_of (h 0 (by omega)) (h 1 (by omega)) (h 2 (by omega)) (h 3 (by omega))
        · have cb : decide ((i : Int) < (l0_2.length : Int)) = false := decide_eq_false (by omega)
          go_wp2
          go_ret
          refine ⟨?_, HI.out.bl⟩
          have h := HW.out
          rw [if_pos HCL.out, if_pos (List.all_eq_true.mpr (fun g hg => HF.out g (by rw [List.take_of_length_le (by omega)]; exact hg)))] at h
          obtain rfl := Option.some.inj h
          rfl
    · have cl1 : ((l0_2.length : Int) == a1_2) = false := beq_eq_false_iff_ne.mpr cl
      have cl2 : ((l0_2.length : Int) != a1_2) = true := bne_iff_ne.mpr cl
      go_enter Try.func19, Try.ntmps19
      go_wp2_with (first | ((with_reducible refine gate_callee (f := 28) rfl ?_); refine goesL_ (some 14) rfl rfl Try.func28 (by kernel_rfl) rfl #[.int .i64 a0_0, .int .i64 a0_1, .agg #[.int .i64 a1_0, .int .i64 a1_1, .int .i64 a1_2, .int .i64 a1_3, .int .i64 a1_4, .int .i64 a1_5, .int .i64 a1_6, .int .i64 a1_7]] rfl (by (try simp only [List.map_toArray, List.map_cons, List.map_nil]); first | done | rfl) ?_; (with_reducible refine (graft_right.calls k a0_0 a0_1 a1_0 a1_1 a1_2 a1_3 a1_4 a1_5 a1_6 a1_7 true _ HT.out).mono ?_); rintro e w1 ⟨rfl, hb⟩; refine ⟨_, rfl, ?_⟩; have HI := Aside0.mk (HI0.out.below hb); clear hb HI0; have ha0 : w1.cell? ⟨w.heap.size, 0, none⟩ = some (.int .i64 a0_0) := (blk_cell HI.out.b1 0).trans rfl; have ha1 : w1.cell? ⟨w.heap.size, 1, none⟩ = some (.int .i64 a0_1) := (blk_cell HI.out.b1 1).trans rfl; have ha2 : w1.cell? ⟨w.heap.size, 2, none⟩ = some (.slice A0_2 l0_2.length c0_2) := (blk_cell HI.out.b1 2).trans rfl; have hc0 : w1.cell? ⟨w.heap.size + 1, 0, none⟩ = some (.int .i64 a1_0) := (blk_cell HI.out.b2 0).trans rfl; have hc2 : w1.cell? ⟨w.heap.size + 1, 2, none⟩ = some (.int .i64 a1_2) := (blk_cell HI.out.b2 2).trans rfl))
      go_ret
      have h := HW.out
      rw [if_neg cl] at h
      obtain rfl := Option.some.inj h
      exact ⟨rfl, HI.out.bl⟩

end Go.Proofs.Ytekaiebfgcjddaa.PGraftBack
