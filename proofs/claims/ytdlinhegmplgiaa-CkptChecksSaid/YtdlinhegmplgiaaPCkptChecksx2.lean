/- A text of the session: functions of the program and their walks, laid by a program of its own (wip/tools/mkprint.py) over the translation. No condition. -/
import Derived.Test.YtdlinhegmplgiaaPCkptChecksx0
import Derived.Test.YtdlinhegmplgiaaPCkptChecksx5
namespace Go.Proofs.Ytdlinhegmplgiaa.PCkptChecks
open Go.RowKit Go.Proofs.YtdlinhegmplgiaaW.PrintWords Go.Proofs.YtdlinhegmplgiaaW.PrintLast Go.Proofs.YtdlinhegmplgiaaW.PrintMore
attribute [local go_sem] max2_int min2_int max_two min_two max_three min_three max_four min_four   -- for this text's walks alone
set_option linter.unusedVariables false
set_option linter.unusedSimpArgs false

/-! ### aviarylaw09_Own: function 13 -/
/-! ### 'append([]T{}, xs...)': a copy; nothing that was there changes -/
theorem reps_int (k : IntKind) (w : World) (base : Nat) (ok : Nat → Prop) : ∀ ys : List Int, Reps ((Kd.int k).M w base ok) 1 ys (nums k ys) := by
  intro ys
  refine ⟨by simp [nums], fun j p hj => ?_⟩
  show ((nums k ys).drop (j * 1)).take 1 = [.int k p]
  rw [Nat.mul_one, List.take_one, List.head?_drop, nums, List.getElem?_map, hj]
  rfl
theorem copy_run {P : Program} {w : World} (t ty e : TypeId) (k : IntKind) (bytes : Nat) (ht : P.underlying t = some (.slice e)) (hinfo : (P.info? e).map (fun i => (i.zero, i.size, i.bytes)) = some (some (.int k 0), 1, bytes)) (hb0 : 0 < bytes)
    (g : Nat) (hg : w.heap[g]? = some (.cells #[] e (0, 0))) (ys : List Int) (A : Option Addr) (m c : Nat) (HR : (Kd.int k).C w A m ys) (hl : m * bytes ≤ 140737488355328) {base : Nat} (hbg : base ≤ g) :
    ∃ v w1, (Builtin.append_ #[t, t] ty #[.slice (some ⟨g, 0, none⟩) 0 0, .slice A m c]).run P w = .ok v w1 ∧ (Kd.int k).R e w1 base (fun z => z = g ∨ w.heap.size ≤ z) v ys ∧ Below w.heap.size w w1 := by
  obtain ⟨i0, hi, hzz⟩ := Option.map_eq_some_iff.1 hinfo
  simp only [Prod.mk.injEq] at hzz
  obtain ⟨hz0, hz1, hz2⟩ := hzz
  have hm : ys.length = m := HR.1
  have hsmall : m ≤ 140737488355328 := Nat.le_trans (Nat.le_mul_of_pos_right _ hb0) hl
  rcases Nat.eq_zero_or_pos m with h0 | h0
  · subst h0
    obtain rfl : ys = [] := List.eq_nil_of_length_eq_zero hm
    refine ⟨.slice (some ⟨g, 0, none⟩) 0 0, w, ?_, ⟨fun z hz => .inl (by simpa [Value.ownBlock] using hz.symm), [], ⟨rfl, .inr ⟨g, 0, #[], rfl, hbg, hg, Nat.le_refl _, by decide, rfl, rfl⟩⟩, Reps.none _ _⟩, Below.refl _ _⟩
    cases A with
    | none => simp [Builtin.append_, run_underlying ht, sizeOf, typeInfo, hi, Builtin.lenOf, Builtin.firstCells, storeCells]
    | some ad => simp [Builtin.append_, run_underlying ht, sizeOf, typeInfo, hi, Builtin.lenOf, Builtin.firstCells, loadCells, loadCellsFrom, storeCells]
  · obtain ⟨ad, hA, _⟩ := HR.2.2 h0
    subst hA
    have hreads := Kd.reads_of_C (enc := Value.int k) (d := (0 : Int)) (h1 := fun _ => rfl) HR
    have hnews : ∀ j u, (nums k ys)[j]? = some u → w.cell? (ad.add j) = some u := by
      intro j u hj
      obtain ⟨ad', e', hc⟩ := hreads.2.2 h0
      injection e' with e'
      subst e'
      rw [nums, List.getElem?_map] at hj
      obtain ⟨x, hx, rfl⟩ := Option.map_eq_some_iff.1 hj
      have hjl : j < m := by rw [← hm]; exact (List.getElem?_eq_some_iff.1 hx).1
      have := hc j hjl
      rw [List.getD_eq_getElem?_getD, hx] at this
      exact this
    have hr := run_append_grow (P := P) w t ty e i0 (.int k 0) ht hi hz0 ⟨g, 0, none⟩ 0 0 [] (by simp) (by simp) ad m c (nums k ys) (by rw [hz1]; simp [nums, hm]) hnews (by omega) (by omega) (growslice_fits (by omega) (by rw [hz2, Nat.zero_add]; exact hl))
    have hge := grownCap_ge w (0 + m) 0 e
    have hcm := grownCap_le_maxLen w (0 + m) 0 e (by simp only [maxLen]; omega)
    have hb' : Below w.heap.size w (w.drew.alloc (.cells (([] : List Value).toArray ++ (nums k ys).toArray ++ Builtin.zeroCells (Value.int k 0).cells (grownCap w (0 + m) 0 e - (0 + m))) e)) := below_alloc (below_drew1 (Below.refl _ _)) _
    rw [Nat.zero_add] at hr hge hcm hb'
    have hz : (Value.int k 0).cells.size = 1 := rfl
    have hnl : (nums k ys).length = m := by simp [nums, hm]
    refine ⟨_, _, hr, ⟨fun z hz => .inr (by have h_ : w.heap.size = z := by simpa [Value.ownBlock] using hz
                                            omega), nums k ys, ⟨by rw [hnl, hm]; simp [Kd.int, Kd.scalar], .inr ⟨w.heap.size, _, _, by rw [hm], Nat.le_trans hbg (Nat.le_of_lt (blk_lt hg)), heap_alloc_new w.drew _, by rw [hm]; exact hge, hcm, ?_, ?_⟩⟩, reps_int k _ _ _ ys⟩, hb'⟩
    · simp only [Array.size_append, List.size_toArray, size_zeroCells, hz, hnl, List.length_nil]
      show 0 + m + _ = _ * 1
      omega
    · simp only [Array.toList_append, List.nil_append, hm]
      show List.take (m * 1) _ = _
      rw [Nat.mul_one, ← hnl]
      exact List.take_left
theorem copy_step {P : Program} {ops : Array Oper} {o : Oper} {a : Act} {Q : Exit → Act → World → Prop} {Kc : Act → World → Prop} {W : World} (hw : Region.wanted o (yielded ops a.tmps) = true) (s x : Operand) (t e : TypeId) (k : IntKind) (bytes : Nat)
    (ho : o.op = .call { callee := .builtin .append, args := #[s, x], argTypes := #[t, t] }) (ht : P.underlying t = some (.slice e)) (hinfo : (P.info? e).map (fun i => (i.zero, i.size, i.bytes)) = some (some (.int k 0), 1, bytes)) (hb0 : 0 < bytes)
    (g : Nat) (ys : List Int) (A : Option Addr) (m c : Nat) (hs : a.eval s = .slice (some ⟨g, 0, none⟩) 0 0) (hx : a.eval x = .slice A m c) (hg : W.heap[g]? = some (.cells #[] e (0, 0))) (HR : (Kd.int k).C W A m ys) (hl : m * bytes ≤ 140737488355328) {base : Nat} (hbg : base ≤ g)
    (h : ∀ v w1, (Kd.int k).R e w1 base (fun z => z = g ∨ W.heap.size ≤ z) v ys → Below W.heap.size W w1 → Kc (a.put o.dst v) w1) :
    if Region.wanted o (yielded ops a.tmps) = true then Oper.wp P o a W Kc Q else Kc (a.put o.dst undef) W := by
  obtain ⟨v, w1, hr, hR, hb⟩ := copy_run (P := P) (w := W) t o.type e k bytes ht hinfo hb0 g hg ys A m c HR hl hbg
  rw [if_pos hw]
  unfold Oper.wp execOp
  simp only [ho, resolve, invoke, builtin, Sem.run_bind, Sem.run_pure, Result.andThen_ok, List.map_toArray, List.map_cons, List.map_nil, hs, hx, hr]
  exact h v w1 hR hb
theorem copy_ev {P : Program} {ops : Array Oper} {rest : List Oper} {o : Oper} {a : Act} {Q : Exit → Act → World → Prop} {W : World} (hgd : o.guard = none) (s x : Operand) (t e : TypeId) (k : IntKind) (bytes : Nat)
    (ho : o.op = .call { callee := .builtin .append, args := #[s, x], argTypes := #[t, t] }) (ht : P.underlying t = some (.slice e)) (hinfo : (P.info? e).map (fun i => (i.zero, i.size, i.bytes)) = some (some (.int k 0), 1, bytes)) (hb0 : 0 < bytes)
    (g : Nat) (ys : List Int) (A : Option Addr) (m c : Nat) (hs : a.eval s = .slice (some ⟨g, 0, none⟩) 0 0) (hx : a.eval x = .slice A m c) (hg : W.heap[g]? = some (.cells #[] e (0, 0))) (HR : (Kd.int k).C W A m ys) (hl : m * bytes ≤ 140737488355328) {base : Nat} (hbg : base ≤ g)
    (h : ∀ v w1, (Kd.int k).R e w1 base (fun z => z = g ∨ W.heap.size ≤ z) v ys → Below W.heap.size W w1 → wpList P ops Q rest (a.put o.dst v) w1) :
    wpList P ops Q (o :: rest) a W := by
  obtain ⟨v, w1, hr, hR, hb⟩ := copy_run (P := P) (w := W) t o.type e k bytes ht hinfo hb0 g hg ys A m c HR hl hbg
  refine wpList_plain hgd fun K hK => ?_
  unfold Oper.wp execOp
  simp only [ho, resolve, invoke, builtin, Sem.run_bind, Sem.run_pure, Result.andThen_ok, List.map_toArray, List.map_cons, List.map_nil, hs, hx, hr]
  exact hK _ _ (h v w1 hR hb)
/-- Two boxes of the call's own, and all else below as it was. -/
structure OwTwo (w : World) (g1 g2 t1 t2 : Nat) (c1 c2 : Array Value) (W : World) : Prop where
  b1 : W.heap[g1]? = some (.cells c1 t1 (0, 0))
  b2 : W.heap[g2]? = some (.cells c2 t2 (0, 0))
  bl : Below w.heap.size w W
theorem OwTwo.below {w W W1 : World} {g1 g2 t1 t2 : Nat} {c1 c2 : Array Value} (h : OwTwo w g1 g2 t1 t2 c1 c2 W) (hb : Below W.heap.size W W1) : OwTwo w g1 g2 t1 t2 c1 c2 W1 := ⟨blk_below h.b1 hb, blk_below h.b2 hb, below_step h.bl hb⟩
theorem OwTwo.drewN {w W : World} {g1 g2 t1 t2 : Nat} {c1 c2 : Array Value} (h : OwTwo w g1 g2 t1 t2 c1 c2 W) (n : Nat) : OwTwo w g1 g2 t1 t2 c1 c2 (W.drewN n) := ⟨blk_drewN h.b1 n, blk_drewN h.b2 n, pw_below_drewN h.bl n⟩
theorem OwTwo.start (w : World) (t1 t2 : Nat) (c1 c2 : Array Value) : OwTwo w w.heap.size (w.heap.size + 1) t1 t2 c1 c2 ((w.alloc (.cells c1 t1)).alloc (.cells c2 t2)) := by
  refine ⟨blk_alloc (blk_new w _) _, ?_, below_alloc (below_alloc (Below.refl _ _) _) _⟩
  have h := blk_new (w.alloc (.cells c1 t1)) (.cells c2 t2)
  simp only [World.size_alloc] at h
  exact h
theorem OwTwo.set1 {w W : World} {g1 g2 t1 t2 : Nat} {c1 c2 : Array Value} (h : OwTwo w g1 g2 t1 t2 c1 c2 W) (hne : g2 ≠ g1) (hle : w.heap.size ≤ g1) (q : Nat) (u : Value) : OwTwo w g1 g2 t1 t2 (c1.setIfInBounds q u) c2 (W.setCell ⟨g1, q, none⟩ u) := ⟨blk_set h.b1 q u, blk_far h.b2 (p := ⟨g1, q, none⟩) hne u, below_set h.bl hle⟩
def clx (b : Bool) (A : Option Addr) (n d : Nat) (X : Value) : Value := if b = true then .slice A n d else X
structure OwKeep (g : Nat) (W0 W : World) : Prop where
  sz : W0.heap.size ≤ W.heap.size
  eq : ∀ k, k < W0.heap.size → k ≠ g → W.heap[k]? = W0.heap[k]?
theorem OwKeep.below {g : Nat} {W0 W W1 : World} (h : OwKeep g W0 W) (hb : Below W.heap.size W W1) : OwKeep g W0 W1 := ⟨Nat.le_trans h.sz hb.size, fun k hk hn => (hb.block k (Nat.lt_of_lt_of_le hk h.sz)).trans (h.eq k hk hn)⟩
theorem OwKeep.set {g : Nat} {W0 W : World} (h : OwKeep g W0 W) (q : Nat) (u : Value) : OwKeep g W0 (W.setCell ⟨g, q, none⟩ u) := ⟨by rw [World.size_setCell]; exact h.sz, fun k hk hn => (Below.heap_setCell W ⟨g, q, none⟩ u k hn).trans (h.eq k hk hn)⟩
theorem OwKeep.row {α : Type} {d : Kd α} {e base g : Nat} {W0 W : World} {v : Value} {xs : List α} (h : OwKeep g W0 W) (hr : d.R e W0 base (fun z => g < z) v xs) : d.R e W base (fun z => g < z) v xs := Kd.R_step hr (fun k ho hk => h.eq k hk (Nat.ne_of_gt ho))
/-- The element that is copied: its box, and what stays. -/
structure OwX (wo wx : World) (c : Array Value) (W : World) : Prop where
  box : W.heap[wo.heap.size]? = some (.cells c 59 (0, 0))
  bl : Below wo.heap.size wo W
  kp : OwKeep wo.heap.size wx W
theorem OwX.below {wo wx W W1 : World} {c : Array Value} (h : OwX wo wx c W) (hb : Below W.heap.size W W1) : OwX wo wx c W1 := ⟨blk_below h.box hb, below_step h.bl hb, h.kp.below hb⟩
theorem OwX.set {wo wx W : World} {c : Array Value} (h : OwX wo wx c W) (q : Nat) (u : Value) : OwX wo wx (c.setIfInBounds q u) (W.setCell ⟨wo.heap.size, q, none⟩ u) := ⟨blk_set h.box q u, below_set h.bl (Nat.le_refl _), h.kp.set q u⟩
structure OwRow (g : Nat) (b0 b3 : Bool) (l : List Int) (y : Nat) (A : Option Addr) (d : Nat) (m0 m3 : Value) (W : World) : Prop where
  e : b0 = true → m0 = .slice (some ⟨y, 0, none⟩) 0 0 ∧ W.heap[y]? = some (.cells #[] 46 (0, 0)) ∧ g < y
  r : b3 = true → m3 = .slice A l.length d ∧ Kd.R (Kd.int .i8) 46 W (g + 1) (fun z => g < z) (.slice A l.length d) l
theorem OwRow.below {g : Nat} {b0 b3 : Bool} {l : List Int} {y : Nat} {A : Option Addr} {d : Nat} {m0 m3 : Value} {W W1 : World} (h : OwRow g b0 b3 l y A d m0 m3 W) (hb : Below W.heap.size W W1) : OwRow g b0 b3 l y A d m0 m3 W1 := ⟨fun hh => ⟨(h.e hh).1, blk_below (h.e hh).2.1 hb, (h.e hh).2.2⟩, fun hh => ⟨(h.r hh).1, Kd.R_below (h.r hh).2 hb⟩⟩
theorem OwRow.set {g : Nat} {b0 b3 : Bool} {l : List Int} {y : Nat} {A : Option Addr} {d : Nat} {m0 m3 : Value} {W : World} (h : OwRow g b0 b3 l y A d m0 m3 W) (q : Nat) (u : Value) : OwRow g b0 b3 l y A d m0 m3 (W.setCell ⟨g, q, none⟩ u) := ⟨fun hh => ⟨(h.e hh).1, blk_far (h.e hh).2.1 (p := ⟨g, q, none⟩) (Nat.ne_of_gt (h.e hh).2.2) u, (h.e hh).2.2⟩, fun hh => ⟨(h.r hh).1, Kd.R_far (h.r hh).2 (fun k hk => Nat.ne_of_gt hk) u⟩⟩
theorem OwRow.start (g : Nat) (l : List Int) (W : World) : OwRow g false false l 0 none 0 .nilIface .nilIface W := ⟨fun h => absurd h (by decide), fun h => absurd h (by decide)⟩
theorem take_L1 {l : List (List Int)} {i : Nat} (h : i < l.length) : l.take (i + 1) = l.take i ++ [l.getD i []] := by
  rw [List.getD_eq_getElem?_getD, List.getElem?_eq_getElem h, List.take_succ_eq_append_getElem h]
  rfl
theorem mem_L1 {l : List (List Int)} {i : Nat} (h : i < l.length) : l.getD i [] ∈ l := by
  rw [List.getD_eq_getElem?_getD, List.getElem?_eq_getElem h]
  exact List.getElem_mem h
theorem own_far2 {α : Type} {d : Kd α} {e base base' g : Nat} {W : World} {v : Value} {xs : List α} (h : d.R e W base (fun z => g < z) v xs) (q1 : Nat) (u1 : Value) (q2 : Nat) (u2 : Value) (hb : base' ≤ base) : d.R e ((W.setCell ⟨g, q1, none⟩ u1).setCell ⟨g, q2, none⟩ u2) base' (fun z => g < z) v xs := Kd.R_lower (Kd.R_far (Kd.R_far h (fun _ hk => Nat.ne_of_gt hk) u1) (fun _ hk => Nat.ne_of_gt hk) u2) hb
theorem own_gt {α : Type} {d : Kd α} {e base g : Nat} {W : World} {v : Value} {xs : List α} (h : d.R e W base (fun _ => True) v xs) (hg : g < base) : d.R e W base (fun z => g < z) v xs := Kd.R_mono (Kd.R_bound h) (fun _ hk => Nat.lt_of_lt_of_le hg hk.2.1)
theorem below_setCells2_ {B : Nat} {w0 : World} {g : Nat} (hg : B ≤ g) : ∀ (vs : List Value) (o : Nat) {w : World}, Below B w0 w → Below B w0 (w.setCells g o vs)
  | [], _, _, h => h
  | v :: r, o, w, h => below_setCells2_ hg r (o + 1) (h.setCell (p := ⟨g, o, none⟩) hg v)
theorem sizeSet_ (g : Nat) : ∀ (vs : List Value) (o : Nat) (w : World), (w.setCells g o vs).heap.size = w.heap.size
  | [], _, _ => rfl
  | v :: r, o, w => by
    show ((w.setCell ⟨g, o, none⟩ v).setCells g (o + 1) r).heap.size = _
    rw [sizeSet_ g r]
    simp [World.setCell]
theorem store_blk {P : Program} {w : World} {g : Nat} {e t : TypeId} {cur : Array Value} (seg : List Value) (hh : w.heap[g]? = some (.cells cur e (0, 0))) (ht : (P.info? t).map (·.size) = some seg.length) (hlen : seg.length = cur.size) (h1 : ∀ q ∈ seg, q.oneCell' = true) :
    (Instr.storeAt t (.pointer (some ⟨g, 0, none⟩)) (.agg seg.toArray)).run P w = .ok () (w.setCells g 0 seg) ∧ (w.setCells g 0 seg).heap[g]? = some (.cells seg.toArray e (0, 0)) ∧ (∀ k, k ≠ g → (w.setCells g 0 seg).heap[k]? = w.heap[k]?) ∧ (w.setCells g 0 seg).heap.size = w.heap.size := by
  refine ⟨run_store_run (o := 0) t (.agg seg.toArray) seg hh (by simp [Value.cells]) ht (by omega) h1, ?_, fun k hk => setCells_far seg 0 (w := w) k (g := g) hk, sizeSet_ g seg 0 w⟩
  obtain ⟨cur', r1, _, r3⟩ := setCells_row seg 0 w cur hh (by omega)
  have hc : cur' = seg.toArray := by
    apply Array.toList_inj.1
    rw [r3, List.take_zero, List.nil_append, List.drop_of_length_le (by rw [Array.length_toList]; omega), List.append_nil]
  rw [r1, hc]
def aviarylaw09_Own.T9 : Bool × List (List Nat × List Nat) := (true, [([], []), ([], []), ([1], [1]), ([0, 2], [0, 2]), ([], []), ([], []), ([5], [5]), ([4, 6, 3], [4, 6]), ([], []), ([], []), ([9], [9]), ([8, 10, 7], [8, 10]), ([0, 1, 2, 3, 5, 6, 9, 10], []), ([12, 3, 11, 0, 1, 2, 3, 5, 6, 9, 10], [3, 12]), ([0, 1, 2, 3, 4, 5, 6, 7, 9, 10, 12, 13], []), ([14, 7, 13, 0, 1, 2, 3, 4, 5, 6, 7, 9, 10, 12, 13], [7, 14]), ([0, 1, 2, 3, 4, 5, 6, 7, 8, 9, 10, 11, 12, 13, 14, 15], []), ([16, 11, 15, 0, 1, 2, 3, 4, 5, 6, 7, 8, 9, 10, 11, 12, 13, 14, 15], [11, 16])])
def aviarylaw09_Own.B9 : List Nat := [0, 0, 2, 7, 0, 0, 32, 127, 0, 0, 512, 2047, 1647, 8191, 16383, 32767, 65535, 131071]
theorem aviarylaw09_Own.tab9 : rtab .any (opsOf Try.f13 9) = aviarylaw09_Own.T9 := by kernel_rfl
theorem aviarylaw09_Own.bits9 : waitsOk aviarylaw09_Own.T9.2 aviarylaw09_Own.B9 = true := by kernel_rfl
def aviarylaw09_Own.T10 : Bool × List (List Nat × List Nat) := (true, [([], []), ([], []), ([1], [1]), ([0, 2], [0, 2]), ([], []), ([], []), ([5], [5]), ([4, 6, 3], [4, 6]), ([], []), ([], []), ([9], [9]), ([8, 10, 7], [8, 10]), ([], []), ([], []), ([13], [13]), ([12, 14, 11], [12, 14]), ([0, 1, 2, 3, 5, 6, 9, 10, 13, 14], []), ([16, 3, 15, 0, 1, 2, 3, 5, 6, 9, 10, 13, 14], [3, 16]), ([0, 1, 2, 3, 4, 5, 6, 7, 9, 10, 13, 14, 16, 17], []), ([18, 7, 17, 0, 1, 2, 3, 4, 5, 6, 7, 9, 10, 13, 14, 16, 17], [7, 18]), ([0, 1, 2, 3, 4, 5, 6, 7, 8, 9, 10, 11, 13, 14, 16, 17, 18, 19], []), ([20, 11, 19, 0, 1, 2, 3, 4, 5, 6, 7, 8, 9, 10, 11, 13, 14, 16, 17, 18, 19], [11, 20]), ([0, 1, 2, 3, 4, 5, 6, 7, 8, 9, 10, 11, 12, 13, 14, 15, 16, 17, 18, 19, 20, 21], []), ([22, 15, 21, 0, 1, 2, 3, 4, 5, 6, 7, 8, 9, 10, 11, 12, 13, 14, 15, 16, 17, 18, 19, 20, 21], [15, 22])])
def aviarylaw09_Own.B10 : List Nat := [0, 0, 2, 7, 0, 0, 32, 127, 0, 0, 512, 2047, 0, 0, 8192, 32767, 26223, 131071, 262143, 524287, 1048575, 2097151, 4194303, 8388607]
theorem aviarylaw09_Own.tab10 : rtab .any (opsOf Try.f13 10) = aviarylaw09_Own.T10 := by kernel_rfl
theorem aviarylaw09_Own.bits10 : waitsOk aviarylaw09_Own.T10.2 aviarylaw09_Own.B10 = true := by kernel_rfl
theorem own_keep {α : Type} {d : Kd α} {e base lo hi g q : Nat} {W W2 : World} {v u : Value} {xs : List α} (h : d.R e W base (fun k => lo ≤ k ∧ k < hi) v xs) (hb : Below W.heap.size W W2) (hg : g < lo) : d.R e (W2.setCell ⟨g, q, none⟩ u) base (fun k => lo ≤ k ∧ k < hi) v xs := Kd.R_far (Kd.R_below h hb) (fun k hk => Nat.ne_of_gt (Nat.lt_of_lt_of_le hg hk.1)) u
theorem own_new {α : Type} {d : Kd α} {e base lo hi g q : Nat} {W W2 : World} {o : Obj} {v u : Value} {xs : List α} (h : d.R e W2 base (fun z => z = W.heap.size ∨ (W.alloc o).heap.size ≤ z) v xs) (hlo : W.heap.size = lo) (hhi : (W2.setCell ⟨g, q, none⟩ u).heap.size = hi) (hg : g < lo) : d.R e (W2.setCell ⟨g, q, none⟩ u) base (fun k => lo ≤ k ∧ k < hi) v xs := by
  rw [World.size_setCell] at hhi
  refine Kd.R_far (Kd.R_mono (Kd.R_bound h) (fun k hk => ?_)) (fun k hk => Nat.ne_of_gt (Nat.lt_of_lt_of_le hg hk.1)) u
  have h1 := hk.1
  have h2 := hk.2.2.1
  rw [World.size_alloc] at h1
  omega
theorem mem_T59 {l : List S59} {i : Nat} (h : i < l.length) : rd_T59 l (i : Int) ∈ l := by
  unfold rd_T59
  rw [Int.toNat_natCast, List.getD_eq_getElem?_getD, List.getElem?_eq_getElem h]
  exact List.getElem_mem h
abbrev ownOk (e : List Int) (L : List S59) (nn o : List Int) : Prop := L.length ≤ 20 ∧ e.length < 140737488355328 ∧ nn.length < 140737488355328 ∧ o.length < 140737488355328 ∧ ∀ g ∈ L, g.f0.length < 140737488355328 ∧ g.f1.length < 140737488355328 ∧ g.f2.length < 140737488355328 ∧ g.f3.length < 140737488355328 ∧ g.f4.length < 140737488355328 ∧ g.f5.length < 140737488355328 ∧ g.f6.length < 140737488355328 ∧ g.f7.length < 5864062014805 ∧ g.f8.length < 5864062014805 ∧ (∀ r ∈ g.f7, r.length < 140737488355328) ∧ ∀ r ∈ g.f8, r.length < 140737488355328
def aviarylaw09_Own.f (a0_0 : Int) (a0_1 : Int) (a0_2 : Int) (a0_3 : Int) (a0_4 : Int) (a0_5 : Int) (a0_6 : Int) (a0_7 : Int) (l0_8 : List Int) (l0_9 : List S59) (l0_10 : List Int) (l0_11 : List Int) : Option (Int × Int × Int × Int × Int × Int × Int × Int × (List Int) × (List (S59)) × (List Int) × (List Int)) := if ownOk l0_8 l0_9 l0_10 l0_11 then some (a0_0, a0_1, a0_2, a0_3, a0_4, a0_5, a0_6, a0_7, l0_8, l0_9, l0_10, l0_11) else none
set_option maxHeartbeats 8000000 in
set_option maxRecDepth 100000 in
theorem aviarylaw09_Own.calls (a0_0 : Int) (a0_1 : Int) (a0_2 : Int) (a0_3 : Int) (a0_4 : Int) (a0_5 : Int) (a0_6 : Int) (a0_7 : Int) (A0_8 : Option Addr) (c0_8 : Nat) (l0_8 : List Int) (A0_9 : Option Addr) (c0_9 : Nat) (l0_9 : List S59) (A0_10 : Option Addr) (c0_10 : Nat) (l0_10 : List Int) (A0_11 : Option Addr) (c0_11 : Nat) (l0_11 : List Int) (r1 : Int) (r2 : Int) (r3 : Int) (r4 : Int) (r5 : Int) (r6 : Int) (r7 : Int) (r8 : Int) (r9 : List Int) (r10 : List (S59)) (r11 : List Int) (r12 : List Int) (w : World) (hr0_8 : Kd.C (Kd.int .i8) w A0_8 l0_8.length l0_8) (hc0_8 : l0_8.length ≤ c0_8) (hr0_9 : Kd.C k59 w A0_9 l0_9.length l0_9) (hc0_9 : l0_9.length ≤ c0_9) (hr0_10 : Kd.C (Kd.int .i8) w A0_10 l0_10.length l0_10) (hc0_10 : l0_10.length ≤ c0_10) (hr0_11 : Kd.C (Kd.int .i8) w A0_11 l0_11.length l0_11) (hc0_11 : l0_11.length ≤ c0_11) (h : aviarylaw09_Own.f a0_0 a0_1 a0_2 a0_3 a0_4 a0_5 a0_6 a0_7 l0_8 l0_9 l0_10 l0_11 = some (r1, r2, r3, r4, r5, r6, r7, r8, r9, r10, r11, r12)) :
    Calls Try.prog 13 #[.agg #[.int .i64 a0_0, .int .i64 a0_1, .int .i64 a0_2, .int .i64 a0_3, .int .i64 a0_4, .int .i64 a0_5, .int .i64 a0_6, .int .i64 a0_7, .slice A0_8 l0_8.length c0_8, .slice A0_9 l0_9.length c0_9, .slice A0_10 l0_10.length c0_10, .slice A0_11 l0_11.length c0_11]] w fun e w' => ∃ v8_ v9_ v10_ v11_ : Value, e = .returned (.agg #[.int .i64 r1, .int .i64 r2, .int .i64 r3, .int .i64 r4, .int .i64 r5, .int .i64 r6, .int .i64 r7, .int .i64 r8, v8_, v9_, v10_, v11_]) ∧ Kd.R (Kd.int .i8) 46 w' w.heap.size (fun k_ => some k_ ≠ (v10_ : Value).ownBlock ∧ some k_ ≠ (v11_ : Value).ownBlock) v8_ r9 ∧ Kd.R k59 59 w' w.heap.size (fun k_ => some k_ ≠ (v8_ : Value).ownBlock ∧ some k_ ≠ (v10_ : Value).ownBlock ∧ some k_ ≠ (v11_ : Value).ownBlock) v9_ r10 ∧ Kd.R (Kd.int .i8) 46 w' w.heap.size (fun k_ => some k_ ≠ (v8_ : Value).ownBlock ∧ some k_ ≠ (v11_ : Value).ownBlock) v10_ r11 ∧ Kd.R (Kd.int .i8) 46 w' w.heap.size (fun k_ => some k_ ≠ (v8_ : Value).ownBlock ∧ some k_ ≠ (v10_ : Value).ownBlock) v11_ r12 ∧ Below w.heap.size w w' := by
  have hu29 := Try.underlying29
  have hu23 := Try.underlying23
  have hu27 := Try.underlying27
  have hu26 := Try.underlying26
  have hu59 := Try.underlying59
  have hu57 := Try.underlying57
  have HR := Aside0.mk hr0_9
  have HR8 := Aside0.mk hr0_8
  have HR10 := Aside0.mk hr0_10
  have HR11 := Aside0.mk hr0_11
  clear hr0_8 hc0_8 hr0_9 hc0_9 hr0_10 hc0_10 hr0_11 hc0_11
  unfold aviarylaw09_Own.f at h
  by_cases hcond : ownOk l0_8 l0_9 l0_10 l0_11
  · rw [if_pos hcond] at h
    simp only [Option.some.injEq, Prod.mk.injEq] at h
    obtain ⟨rfl, rfl, rfl, rfl, rfl, rfl, rfl, rfl, rfl, rfl, rfl, rfl⟩ := h
    have HOK := Aside0.mk hcond
    simp only [ownOk] at HOK
    clear hcond
    go_enter Try.func13, Try.ntmps13
    go_upto_region 1 with fail
    (try simp only [Act.put, List.setIfInBounds_toArray, List.set_cons_zero, List.set_cons_succ])
    have HB := Aside0.mk (OwTwo.start w 29 29 #[.int .i64 a0_0, .int .i64 a0_1, .int .i64 a0_2, .int .i64 a0_3, .int .i64 a0_4, .int .i64 a0_5, .int .i64 a0_6, .int .i64 a0_7, .slice A0_8 l0_8.length c0_8, .slice A0_9 l0_9.length c0_9, .slice A0_10 l0_10.length c0_10, .slice A0_11 l0_11.length c0_11] #[.int .i64 0, .int .i64 0, .int .i64 0, .int .i64 0, .int .i64 0, .int .i64 0, .int .i64 0, .int .i64 0, .slice none 0 0, .slice none 0 0, .slice none 0 0, .slice none 0 0])
    have HS0 : Aside0 (((w.alloc (.cells #[.int .i64 a0_0, .int .i64 a0_1, .int .i64 a0_2, .int .i64 a0_3, .int .i64 a0_4, .int .i64 a0_5, .int .i64 a0_6, .int .i64 a0_7, .slice A0_8 l0_8.length c0_8, .slice A0_9 l0_9.length c0_9, .slice A0_10 l0_10.length c0_10, .slice A0_11 l0_11.length c0_11] 29)).alloc (.cells #[.int .i64 0, .int .i64 0, .int .i64 0, .int .i64 0, .int .i64 0, .int .i64 0, .int .i64 0, .int .i64 0, .slice none 0 0, .slice none 0 0, .slice none 0 0, .slice none 0 0] 29)).heap.size = w.heap.size + 2) := ⟨by simp [World.size_alloc]⟩
    generalize (w.alloc _).alloc _ = w0 at HB HS0 ⊢
    obtain ⟨p0, hp0⟩ : ∃ p, p = w.heap.size + 2 := ⟨_, rfl⟩
    rw [← hp0] at HS0
    have HP0 : Aside0 (w.heap.size + 1 < p0) := ⟨by omega⟩
    clear hp0
    have HA := Aside0.mk (HB.out.below (below_alloc (Below.refl _ _) (.cells #[] 46)))
    have fa : (w0.alloc (.cells #[] 46)).cell? ⟨w.heap.size, 8, none⟩ = some (.slice A0_8 l0_8.length c0_8) := (blk_cell HA.out.b1 8).trans rfl
    go_upto_region 2 with (first | ((with_reducible refine gate_builtin (b := .append) (xs := #[.tmp 10, .tmp 12]) rfl ?_); at_builtin; refine copy_ev rfl (.tmp 10) (.tmp 12) 26 46 .i8 1 rfl Try.underlying26 info46 (by decide) w0.heap.size l0_8 A0_8 l0_8.length c0_8 rfl rfl (blk_new w0 _) (Kd.C_below HR8.out (below_alloc HB.out.bl _)) (by have := HOK.out; omega) (base := w.heap.size) (below_size HB.out.bl) ?_; intro vq w0n hR hb; obtain ⟨B8, b8, hv⟩ := Kd.R_slice hR; subst hv; have HQ := Aside0.mk hR; have HL := Aside0.mk (below_step (below_alloc (Below.refl _ _) _) hb); have HB2 := Aside0.mk (HB.out.below HL.out); have fq := blk_frozen HB2.out.b1 8; have fc : w0n.cell? ⟨w.heap.size, 8, none⟩ = some (.slice A0_8 l0_8.length c0_8) := (blk_cell HB2.out.b1 8).trans rfl; clear hR hb))
    (try simp only [Act.put, List.setIfInBounds_toArray, List.set_cons_zero, List.set_cons_succ])
    skip
    have HB3 : Aside0 (OwTwo w w.heap.size (w.heap.size + 1) 29 29 #[.int .i64 a0_0, .int .i64 a0_1, .int .i64 a0_2, .int .i64 a0_3, .int .i64 a0_4, .int .i64 a0_5, .int .i64 a0_6, .int .i64 a0_7, .slice B8 l0_8.length b8, .slice A0_9 l0_9.length c0_9, .slice A0_10 l0_10.length c0_10, .slice A0_11 l0_11.length c0_11] #[.int .i64 0, .int .i64 0, .int .i64 0, .int .i64 0, .int .i64 0, .int .i64 0, .int .i64 0, .int .i64 0, .slice none 0 0, .slice none 0 0, .slice none 0 0, .slice none 0 0] (w0n.setCell ⟨w.heap.size, 8, none⟩ (.slice B8 l0_8.length b8))) := ⟨HB2.out.set1 (by omega) (Nat.le_refl _) 8 (.slice B8 l0_8.length b8)⟩
    obtain ⟨p1, hp⟩ : ∃ p, (w0n.setCell ⟨w.heap.size, 8, none⟩ (.slice B8 l0_8.length b8)).heap.size = p := ⟨_, rfl⟩
    have HS1 := Aside0.mk hp
    clear hp
    have HP1 : Aside0 (p0 ≤ p1) := ⟨by have h1 := HL.out.size; have h2 := HS0.out; have h3 := HS1.out; rw [World.size_setCell] at h3; omega⟩
    have HN8 := Aside0.mk (own_new (q := 8) (u := (.slice B8 l0_8.length b8)) HQ.out HS0.out HS1.out (by have := HP0.out;  omega))
    clear HB HB2 HA fa fq fc HQ HL  HS0
    have HB := HB3
    clear HB3
    have H8 := HN8
    clear HN8
    generalize World.setCell _ _ _ = w1 at *
    have HA := Aside0.mk (HB.out.below (below_alloc (Below.refl _ _) (.cells #[] 46)))
    have fa : (w1.alloc (.cells #[] 46)).cell? ⟨w.heap.size, 10, none⟩ = some (.slice A0_10 l0_10.length c0_10) := (blk_cell HA.out.b1 10).trans rfl
    go_upto_region 3 with (first | ((with_reducible refine gate_builtin (b := .append) (xs := #[.tmp 15, .tmp 17]) rfl ?_); at_builtin; refine copy_ev rfl (.tmp 15) (.tmp 17) 26 46 .i8 1 rfl Try.underlying26 info46 (by decide) w1.heap.size l0_10 A0_10 l0_10.length c0_10 rfl rfl (blk_new w1 _) (Kd.C_below HR10.out (below_alloc HB.out.bl _)) (by have := HOK.out; omega) (base := w.heap.size) (below_size HB.out.bl) ?_; intro vq w1n hR hb; obtain ⟨B10, b10, hv⟩ := Kd.R_slice hR; subst hv; have HQ := Aside0.mk hR; have HL := Aside0.mk (below_step (below_alloc (Below.refl _ _) _) hb); have HB2 := Aside0.mk (HB.out.below HL.out); have fq := blk_frozen HB2.out.b1 10; have fc : w1n.cell? ⟨w.heap.size, 10, none⟩ = some (.slice A0_10 l0_10.length c0_10) := (blk_cell HB2.out.b1 10).trans rfl; clear hR hb))
    (try simp only [Act.put, List.setIfInBounds_toArray, List.set_cons_zero, List.set_cons_succ])
    skip
    have HB3 : Aside0 (OwTwo w w.heap.size (w.heap.size + 1) 29 29 #[.int .i64 a0_0, .int .i64 a0_1, .int .i64 a0_2, .int .i64 a0_3, .int .i64 a0_4, .int .i64 a0_5, .int .i64 a0_6, .int .i64 a0_7, .slice B8 l0_8.length b8, .slice A0_9 l0_9.length c0_9, .slice B10 l0_10.length b10, .slice A0_11 l0_11.length c0_11] #[.int .i64 0, .int .i64 0, .int .i64 0, .int .i64 0, .int .i64 0, .int .i64 0, .int .i64 0, .int .i64 0, .slice none 0 0, .slice none 0 0, .slice none 0 0, .slice none 0 0] (w1n.setCell ⟨w.heap.size, 10, none⟩ (.slice B10 l0_10.length b10))) := ⟨HB2.out.set1 (by omega) (Nat.le_refl _) 10 (.slice B10 l0_10.length b10)⟩
    obtain ⟨p2, hp⟩ : ∃ p, (w1n.setCell ⟨w.heap.size, 10, none⟩ (.slice B10 l0_10.length b10)).heap.size = p := ⟨_, rfl⟩
    have HS2 := Aside0.mk hp
    clear hp
    have HP2 : Aside0 (p1 ≤ p2) := ⟨by have h1 := HL.out.size; have h2 := HS1.out; have h3 := HS2.out; rw [World.size_setCell] at h3; omega⟩
    have HN10 := Aside0.mk (own_new (q := 10) (u := (.slice B10 l0_10.length b10)) HQ.out HS1.out HS2.out (by have := HP0.out; have := HP1.out; omega))
    have HN8 := Aside0.mk (own_keep (g := w.heap.size) (q := 10) (u := (.slice B10 l0_10.length b10)) H8.out HL.out (by have := HP0.out; have := HP1.out; omega))
    clear HB HB2 HA fa fq fc HQ HL H8 HS1
    have HB := HB3
    clear HB3
    have H8 := HN8
    clear HN8
    have H10 := HN10
    clear HN10
    generalize World.setCell _ _ _ = w2 at *
    have HA := Aside0.mk (HB.out.below (below_alloc (Below.refl _ _) (.cells #[] 46)))
    have fa : (w2.alloc (.cells #[] 46)).cell? ⟨w.heap.size, 11, none⟩ = some (.slice A0_11 l0_11.length c0_11) := (blk_cell HA.out.b1 11).trans rfl
    go_upto_region 4 with (first | ((with_reducible refine gate_builtin (b := .append) (xs := #[.tmp 20, .tmp 22]) rfl ?_); at_builtin; refine copy_ev rfl (.tmp 20) (.tmp 22) 26 46 .i8 1 rfl Try.underlying26 info46 (by decide) w2.heap.size l0_11 A0_11 l0_11.length c0_11 rfl rfl (blk_new w2 _) (Kd.C_below HR11.out (below_alloc HB.out.bl _)) (by have := HOK.out; omega) (base := w.heap.size) (below_size HB.out.bl) ?_; intro vq w2n hR hb; obtain ⟨B11, b11, hv⟩ := Kd.R_slice hR; subst hv; have HQ := Aside0.mk hR; have HL := Aside0.mk (below_step (below_alloc (Below.refl _ _) _) hb); have HB2 := Aside0.mk (HB.out.below HL.out); have fq := blk_frozen HB2.out.b1 11; have fc : w2n.cell? ⟨w.heap.size, 11, none⟩ = some (.slice A0_11 l0_11.length c0_11) := (blk_cell HB2.out.b1 11).trans rfl; clear hR hb))
    (try simp only [Act.put, List.setIfInBounds_toArray, List.set_cons_zero, List.set_cons_succ])
    skip
    have HB3 : Aside0 (OwTwo w w.heap.size (w.heap.size + 1) 29 29 #[.int .i64 a0_0, .int .i64 a0_1, .int .i64 a0_2, .int .i64 a0_3, .int .i64 a0_4, .int .i64 a0_5, .int .i64 a0_6, .int .i64 a0_7, .slice B8 l0_8.length b8, .slice A0_9 l0_9.length c0_9, .slice B10 l0_10.length b10, .slice B11 l0_11.length b11] #[.int .i64 0, .int .i64 0, .int .i64 0, .int .i64 0, .int .i64 0, .int .i64 0, .int .i64 0, .int .i64 0, .slice none 0 0, .slice none 0 0, .slice none 0 0, .slice none 0 0] (w2n.setCell ⟨w.heap.size, 11, none⟩ (.slice B11 l0_11.length b11))) := ⟨HB2.out.set1 (by omega) (Nat.le_refl _) 11 (.slice B11 l0_11.length b11)⟩
    obtain ⟨p3, hp⟩ : ∃ p, (w2n.setCell ⟨w.heap.size, 11, none⟩ (.slice B11 l0_11.length b11)).heap.size = p := ⟨_, rfl⟩
    have HS3 := Aside0.mk hp
    clear hp
    have HP3 : Aside0 (p2 ≤ p3) := ⟨by have h1 := HL.out.size; have h2 := HS2.out; have h3 := HS3.out; rw [World.size_setCell] at h3; omega⟩
    have HN11 := Aside0.mk (own_new (q := 11) (u := (.slice B11 l0_11.length b11)) HQ.out HS2.out HS3.out (by have := HP0.out; have := HP1.out; have := HP2.out; omega))
    have HN8 := Aside0.mk (own_keep (g := w.heap.size) (q := 11) (u := (.slice B11 l0_11.length b11)) H8.out HL.out (by have := HP0.out; have := HP1.out; have := HP2.out; omega))
    have HN10 := Aside0.mk (own_keep (g := w.heap.size) (q := 11) (u := (.slice B11 l0_11.length b11)) H10.out HL.out (by have := HP0.out; have := HP1.out; have := HP2.out; omega))
    clear HB HB2 HA fa fq fc HQ HL H8 H10 HS2
    have HB := HB3
    clear HB3
    have H8 := HN8
    clear HN8
    have H10 := HN10
    clear HN10
    have H11 := HN11
    clear HN11
    generalize World.setCell _ _ _ = w3 at *
    go_wp2
    have HW3 : Aside0 (OwTwo w w.heap.size (w.heap.size + 1) 29 29 #[.int .i64 a0_0, .int .i64 a0_1, .int .i64 a0_2, .int .i64 a0_3, .int .i64 a0_4, .int .i64 a0_5, .int .i64 a0_6, .int .i64 a0_7, .slice B8 l0_8.length b8, .slice A0_9 l0_9.length c0_9, .slice B10 l0_10.length b10, .slice B11 l0_11.length b11] #[.int .i64 0, .int .i64 0, .int .i64 0, .int .i64 0, .int .i64 0, .int .i64 0, .int .i64 0, .int .i64 0, .slice none 0 0, .slice none 0 0, .slice none 0 0, .slice none 0 0] w3) := HB
    go_loopg [3, 4] l0_9.length (fun kq v3 v4 wr => ∃ (i : Nat) (A3 : Option Addr) (n3 c3 : Nat), v4 = .int .i64 (i : Int) ∧ v3 = .slice A3 n3 c3 ∧ i + kq = l0_9.length ∧ Aside0 (Below w3.heap.size w3 wr) ∧ Aside0 (Kd.R k59 59 wr w3.heap.size (fun _ => True) (.slice A3 n3 c3) (l0_9.take i)))
    case atStart => exact ⟨0, none, 0, 0, rfl, rfl, by omega, ⟨Below.refl _ _⟩, ⟨Kd.R_nil _ _ _ _ _⟩⟩
    case round =>
      obtain ⟨i, A3, n3, c3, rfl, rfl, hik, HWL, HS⟩ := hrel
      generalize wr = wo at *
      have HBo := Aside0.mk (HB.out.below HWL.out)
      have ha2 : wo.cell? ⟨w.heap.size, 9, none⟩ = some (.slice A0_9 l0_9.length c0_9) := (blk_cell HBo.out.b1 9).trans rfl
      have hlen : (l0_9.length : Int) ≤ 9223372036854775807 := by have := HOK.out.1; omega
      by_cases ci : i < l0_9.length
      · have cb : decide ((i : Int) < (l0_9.length : Int)) = true := decide_eq_true (by omega)
        have cp := eq_true (show 0 ≤ (i : Int) by omega)
        have cq := eq_true (show (i : Int) < (l0_9.length : Int) by omega)
        have HTK := Aside0.mk (ck_take ci)
        have HLN := Aside0.mk (HOK.out.2.2.2.2 _ (mem_T59 ci))
        obtain ⟨ad, X0, y0, X1, y1, X2, y2, X3, y3, X4, y4, X5, y5, X6, y6, X7, y7, X8, y8, e_, hx0, hx1, hx2, hx3, hx4, hx5, hx6, hx7, hx8, -, g0, -, g1, -, g2, -, g3, -, g4, -, g5, -, g6, -, g7, -, g8⟩ := at_T59 HR.out (i : Int) (by omega) (by omega)
        subst e_
        rw [Int.toNat_natCast] at hx0 hx1 hx2 hx3 hx4 hx5 hx6 hx7 hx8
        replace hx0 := (HBo.out.bl.cell (World.block_lt_of_cell? w _ hx0)).trans hx0
        replace hx1 := (HBo.out.bl.cell (World.block_lt_of_cell? w _ hx1)).trans hx1
        replace hx2 := (HBo.out.bl.cell (World.block_lt_of_cell? w _ hx2)).trans hx2
        replace hx3 := (HBo.out.bl.cell (World.block_lt_of_cell? w _ hx3)).trans hx3
        replace hx4 := (HBo.out.bl.cell (World.block_lt_of_cell? w _ hx4)).trans hx4
        replace hx5 := (HBo.out.bl.cell (World.block_lt_of_cell? w _ hx5)).trans hx5
        replace hx6 := (HBo.out.bl.cell (World.block_lt_of_cell? w _ hx6)).trans hx6
        replace hx7 := (HBo.out.bl.cell (World.block_lt_of_cell? w _ hx7)).trans hx7
        replace hx8 := (HBo.out.bl.cell (World.block_lt_of_cell? w _ hx8)).trans hx8
        generalize rd_T59 l0_9 (i : Int) = G at *
        have HX0 := Aside0.mk g0
        have HX1 := Aside0.mk g1
        have HX2 := Aside0.mk g2
        have HX3 := Aside0.mk g3
        have HX4 := Aside0.mk g4
        have HX5 := Aside0.mk g5
        have HX6 := Aside0.mk g6
        have HX7 := Aside0.mk g7
        have HX8 := Aside0.mk g8
        clear g0 g1 g2 g3 g4 g5 g6 g7 g8
        have HX : Aside0 (OwX wo (wo.alloc (.cells #[.slice X0 G.f0.length y0, .slice X1 G.f1.length y1, .slice X2 G.f2.length y2, .slice X3 G.f3.length y3, .slice X4 G.f4.length y4, .slice X5 G.f5.length y5, .slice X6 G.f6.length y6, .slice X7 G.f7.length y7, .slice X8 G.f8.length y8] 59)) #[.slice X0 G.f0.length y0, .slice X1 G.f1.length y1, .slice X2 G.f2.length y2, .slice X3 G.f3.length y3, .slice X4 G.f4.length y4, .slice X5 G.f5.length y5, .slice X6 G.f6.length y6, .slice X7 G.f7.length y7, .slice X8 G.f8.length y8] (wo.alloc (.cells #[.slice X0 G.f0.length y0, .slice X1 G.f1.length y1, .slice X2 G.f2.length y2, .slice X3 G.f3.length y3, .slice X4 G.f4.length y4, .slice X5 G.f5.length y5, .slice X6 G.f6.length y6, .slice X7 G.f7.length y7, .slice X8 G.f8.length y8] 59))) := ⟨⟨blk_new wo _, below_alloc (Below.refl _ _) _, ⟨Nat.le_refl _, fun _ _ _ => rfl⟩⟩⟩
        go_upto_region 9 with fail
        (try simp only [Act.put, List.setIfInBounds_toArray, List.set_cons_zero, List.set_cons_succ])
        clear hx0 hx1 hx2 hx3 hx4 hx5 hx6 hx7 hx8 ha2 cb cp cq
        generalize hwx : wo.alloc _ = wx at HX ⊢
        clear hwx
        skip
        refine start_ (n := 18) (S := fun w' => True) (ds := []) #[false, false, false, false, false, false, false, false, false, false, false, false, false, false, false, false, false, false] (by kernel_rfl) rfl rfl trivial (fun hHeld => ?_)
        refine pure_ (i := 1) (N := some 38) (v := ?_) (a' := ?_) #[false, true, false, false, false, false, false, false, false, false, false, false, false, false, false, false, false, false] rfl rfl (by kernel_rfl) (fun _ _ _ h => h) (Or.inl ⟨by rfl, ?_⟩) ?_ ?_
        rotate_left
        · intro w'
          go_simp
          with_reducible rfl
        rotate_left
        · simp only [Act.put, List.setIfInBounds_toArray, List.set_cons_zero, List.set_cons_succ, i64_w, i32_w]
          rfl
        refine pure_ (i := 5) (N := some 42) (v := ?_) (a' := ?_) #[false, true, false, false, false, true, false, false, false, false, false, false, false, false, false, false, false, false] rfl rfl (by kernel_rfl) (fun _ _ _ h => h) (Or.inl ⟨by rfl, ?_⟩) ?_ ?_
        rotate_left
        · intro w'
          go_simp
          with_reducible rfl
        rotate_left
        · simp only [Act.put, List.setIfInBounds_toArray, List.set_cons_zero, List.set_cons_succ, i64_w, i32_w]
          rfl
        refine pure_ (i := 9) (N := some 46) (v := ?_) (a' := ?_) #[false, true, false, false, false, true, false, false, false, true, false, false, false, false, false, false, false, false] rfl rfl (by kernel_rfl) (fun _ _ _ h => h) (Or.inl ⟨by rfl, ?_⟩) ?_ ?_
        rotate_left
        · intro w'
          go_simp
          with_reducible rfl
        rotate_left
        · simp only [Act.put, List.setIfInBounds_toArray, List.set_cons_zero, List.set_cons_succ, i64_w, i32_w]
          rfl
        refine inv_at [0, 2, 3, 4, 6, 7, 8, 10, 11, 12, 13, 14, 15, 16, 17] (fun a0_ b a w' => ∃ (y9x0_ : Nat) (A9x0_ : Option Addr) (d9x0_ : Nat) (u9x0_ : Value) (t9x0_ : Value) (y9x1_ : Nat) (A9x1_ : Option Addr) (d9x1_ : Nat) (u9x1_ : Value) (t9x1_ : Value) (y9x2_ : Nat) (A9x2_ : Option Addr) (d9x2_ : Nat) (u9x2_ : Value) (t9x2_ : Value), a = putSel a0_ b [(0, 37, u9x0_), (2, 39, .slice X0 G.f0.length y0), (3, 40, t9x0_), (4, 41, u9x1_), (6, 43, .slice X1 G.f1.length y1), (7, 44, t9x1_), (8, 45, u9x2_), (10, 47, .slice X2 G.f2.length y2), (11, 48, t9x2_), (12, 49, .pointer (some ⟨wo.heap.size, 0, none⟩)), (14, 50, .pointer (some ⟨wo.heap.size, 1, none⟩)), (16, 51, .pointer (some ⟨wo.heap.size, 2, none⟩))] ∧ OwX wo wx #[clx (b 13) A9x0_ G.f0.length d9x0_ (.slice X0 G.f0.length y0), clx (b 15) A9x1_ G.f1.length d9x1_ (.slice X1 G.f1.length y1), clx (b 17) A9x2_ G.f2.length d9x2_ (.slice X2 G.f2.length y2), .slice X3 G.f3.length y3, .slice X4 G.f4.length y4, .slice X5 G.f5.length y5, .slice X6 G.f6.length y6, .slice X7 G.f7.length y7, .slice X8 G.f8.length y8] w' ∧ OwRow wo.heap.size (b 0) (b 3) G.f0 y9x0_ A9x0_ d9x0_ u9x0_ t9x0_ w' ∧ OwRow wo.heap.size (b 4) (b 7) G.f1 y9x1_ A9x1_ d9x1_ u9x1_ t9x1_ w' ∧ OwRow wo.heap.size (b 8) (b 11) G.f2 y9x2_ A9x2_ d9x2_ u9x2_ t9x2_ w') aviarylaw09_Own.tab9 aviarylaw09_Own.bits9 (by kernel_rfl) (by kernel_rfl) ?_ ?_ ?_
        · exact ⟨0, none, 0, .nilIface, .nilIface, 0, none, 0, .nilIface, .nilIface, 0, none, 0, .nilIface, .nilIface, by simp only [putSel, Bool.false_eq_true, if_false], ⟨(HX.out.below (below_drew1 (Below.refl _ _))).box, (HX.out.below (below_drew1 (Below.refl _ _))).bl, (HX.out.below (below_drew1 (Below.refl _ _))).kp⟩, OwRow.start _ _ _, OwRow.start _ _ _, OwRow.start _ _ _⟩
        · clear HX
          refine steps_cons ?_ ?_
          · rintro b a w' ⟨y9x0_, A9x0_, d9x0_, u9x0_, t9x0_, y9x1_, A9x1_, d9x1_, u9x1_, t9x1_, y9x2_, A9x2_, d9x2_, u9x2_, t9x2_, ha, hX, r9x0_, r9x1_, r9x2_⟩ hb_ hon hoff
            refine ⟨_, rfl, fun K hK => ?_⟩
            replace ha := Aside0.mk ha
            replace hX := Aside0.mk hX
            have hb : Below w'.heap.size w' (w'.alloc (.cells #[] 46)) := below_alloc (Below.refl _ _) _
            have hlt : wo.heap.size < w'.heap.size := blk_lt hX.out.box
            refine value_ (w1 := w'.alloc (.cells #[] 46)) (v := .slice (some ⟨w'.heap.size, 0, none⟩) 0 0) (by rfl) rfl (by first | (go_simp; done) | (go_simp; rfl)) ?_
            refine hK.out _ _ ⟨w'.heap.size, A9x0_, d9x0_, .slice (some ⟨w'.heap.size, 0, none⟩) 0 0, t9x0_, y9x1_, A9x1_, d9x1_, u9x1_, t9x1_, y9x2_, A9x2_, d9x2_, u9x2_, t9x2_, (by rw [ha.out]; exact putSel_upk 0 hb_ rfl rfl rfl), hX.out.below hb, ⟨fun _ => ⟨rfl, blk_new w' _, hlt⟩, fun h_ => absurd ((hoff 3 (by kernel_rfl)).symm.trans h_) (by decide)⟩, r9x1_.below hb, r9x2_.below hb⟩
          refine steps_cons ?_ ?_
          · rintro b a w' ⟨y9x0_, A9x0_, d9x0_, u9x0_, t9x0_, y9x1_, A9x1_, d9x1_, u9x1_, t9x1_, y9x2_, A9x2_, d9x2_, u9x2_, t9x2_, ha, hX, r9x0_, r9x1_, r9x2_⟩ hb_ hon hoff
            refine ⟨_, rfl, fun K hK => ?_⟩
            have e1 : a.tmps[38]? = some (.pointer (some ⟨wo.heap.size, 0, none⟩)) := by rw [ha]; exact (putSel_off rfl).trans rfl
            have hc : w'.cell? ⟨wo.heap.size, 0, none⟩ = some (clx (b 13) A9x0_ G.f0.length d9x0_ (.slice X0 G.f0.length y0)) := (blk_cell hX.box 0).trans rfl
            rw [hoff 13 (by kernel_rfl)] at hc
            replace hc : w'.cell? ⟨wo.heap.size, 0, none⟩ = some (.slice X0 G.f0.length y0) := hc
            replace ha := Aside0.mk ha
            replace hX := Aside0.mk hX
            refine value_ (w1 := w') (v := .slice X0 G.f0.length y0) (by rfl) rfl ?_ ?_
            · go_simp
              (try simp only [i64_w])
              try rfl
            refine hK.out _ _ ⟨y9x0_, A9x0_, d9x0_, u9x0_, t9x0_, y9x1_, A9x1_, d9x1_, u9x1_, t9x1_, y9x2_, A9x2_, d9x2_, u9x2_, t9x2_, (by rw [ha.out]; exact putSel_upk 1 hb_ rfl rfl rfl), hX.out, r9x0_, r9x1_, r9x2_⟩
          refine steps_cons ?_ ?_
          · rintro b a w' ⟨y9x0_, A9x0_, d9x0_, u9x0_, t9x0_, y9x1_, A9x1_, d9x1_, u9x1_, t9x1_, y9x2_, A9x2_, d9x2_, u9x2_, t9x2_, ha, hX, r9x0_, r9x1_, r9x2_⟩ hb_ hon hoff
            refine ⟨_, rfl, fun K hK => ?_⟩
            obtain ⟨hu, hy, hg⟩ := r9x0_.e (hon 0 (by kernel_rfl))
            have e1 : a.tmps[37]? = some u9x0_ := by rw [ha]; exact putSel_on (e := (0, 37, u9x0_)) 0 rfl rfl (hon 0 (by kernel_rfl)) rfl
            rw [hu] at e1
            have e2 : a.tmps[39]? = some (.slice X0 G.f0.length y0) := by rw [ha]; exact putSel_on (e := (2, 39, .slice X0 G.f0.length y0)) 1 rfl rfl (hon 2 (by kernel_rfl)) rfl
            have hs : b 13 = false := hoff 13 (by kernel_rfl)
            have hlt : wo.heap.size < w'.heap.size := blk_lt hX.box
            replace ha := Aside0.mk ha
            refine copy_step (by rfl) (.tmp 37) (.tmp 39) 26 46 .i8 1 rfl Try.underlying26 info46 (by decide) y9x0_ G.f0 X0 G.f0.length y0 (eval_of e1) (eval_of e2) hy (Kd.C_below HX0.out (below_step HBo.out.bl hX.bl)) (by have := HLN.out; omega) (base := wo.heap.size + 1) hg ?_
            intro vN w1 hR hb
            obtain ⟨AN, dN, hvN⟩ := Kd.R_slice hR
            subst hvN
            refine hK.out _ _ ⟨y9x0_, AN, dN, u9x0_, .slice AN G.f0.length dN, y9x1_, A9x1_, d9x1_, u9x1_, t9x1_, y9x2_, A9x2_, d9x2_, u9x2_, t9x2_, (by rw [ha.out]; exact putSel_upk 2 hb_ rfl rfl rfl), (by have h := hX.below hb; rw [hs] at h; show OwX wo wx #[clx (b 13) AN G.f0.length dN (.slice X0 G.f0.length y0), clx (b 15) A9x1_ G.f1.length d9x1_ (.slice X1 G.f1.length y1), clx (b 17) A9x2_ G.f2.length d9x2_ (.slice X2 G.f2.length y2), .slice X3 G.f3.length y3, .slice X4 G.f4.length y4, .slice X5 G.f5.length y5, .slice X6 G.f6.length y6, .slice X7 G.f7.length y7, .slice X8 G.f8.length y8] w1; rw [hs]; exact h), ⟨(r9x0_.below hb).e, fun _ => ⟨rfl, Kd.R_mono hR (fun z hz => by rcases hz with h | h <;> omega)⟩⟩, r9x1_.below hb, r9x2_.below hb⟩
          refine steps_cons ?_ ?_
          · rintro b a w' ⟨y9x0_, A9x0_, d9x0_, u9x0_, t9x0_, y9x1_, A9x1_, d9x1_, u9x1_, t9x1_, y9x2_, A9x2_, d9x2_, u9x2_, t9x2_, ha, hX, r9x0_, r9x1_, r9x2_⟩ hb_ hon hoff
            refine ⟨_, rfl, fun K hK => ?_⟩
            replace ha := Aside0.mk ha
            replace hX := Aside0.mk hX
            have hb : Below w'.heap.size w' (w'.alloc (.cells #[] 46)) := below_alloc (Below.refl _ _) _
            have hlt : wo.heap.size < w'.heap.size := blk_lt hX.out.box
            refine value_ (w1 := w'.alloc (.cells #[] 46)) (v := .slice (some ⟨w'.heap.size, 0, none⟩) 0 0) (by rfl) rfl (by first | (go_simp; done) | (go_simp; rfl)) ?_
            refine hK.out _ _ ⟨y9x0_, A9x0_, d9x0_, u9x0_, t9x0_, w'.heap.size, A9x1_, d9x1_, .slice (some ⟨w'.heap.size, 0, none⟩) 0 0, t9x1_, y9x2_, A9x2_, d9x2_, u9x2_, t9x2_, (by rw [ha.out]; exact putSel_upk 3 hb_ rfl rfl rfl), hX.out.below hb, r9x0_.below hb, ⟨fun _ => ⟨rfl, blk_new w' _, hlt⟩, fun h_ => absurd ((hoff 7 (by kernel_rfl)).symm.trans h_) (by decide)⟩, r9x2_.below hb⟩
          refine steps_cons ?_ ?_
          · rintro b a w' ⟨y9x0_, A9x0_, d9x0_, u9x0_, t9x0_, y9x1_, A9x1_, d9x1_, u9x1_, t9x1_, y9x2_, A9x2_, d9x2_, u9x2_, t9x2_, ha, hX, r9x0_, r9x1_, r9x2_⟩ hb_ hon hoff
            refine ⟨_, rfl, fun K hK => ?_⟩
            have e1 : a.tmps[42]? = some (.pointer (some ⟨wo.heap.size, 1, none⟩)) := by rw [ha]; exact (putSel_off rfl).trans rfl
            have hc : w'.cell? ⟨wo.heap.size, 1, none⟩ = some (clx (b 15) A9x1_ G.f1.length d9x1_ (.slice X1 G.f1.length y1)) := (blk_cell hX.box 1).trans rfl
            rw [hoff 15 (by kernel_rfl)] at hc
            replace hc : w'.cell? ⟨wo.heap.size, 1, none⟩ = some (.slice X1 G.f1.length y1) := hc
            replace ha := Aside0.mk ha
            replace hX := Aside0.mk hX
            refine value_ (w1 := w') (v := .slice X1 G.f1.length y1) (by rfl) rfl ?_ ?_
            · go_simp
              (try simp only [i64_w])
              try rfl
            refine hK.out _ _ ⟨y9x0_, A9x0_, d9x0_, u9x0_, t9x0_, y9x1_, A9x1_, d9x1_, u9x1_, t9x1_, y9x2_, A9x2_, d9x2_, u9x2_, t9x2_, (by rw [ha.out]; exact putSel_upk 4 hb_ rfl rfl rfl), hX.out, r9x0_, r9x1_, r9x2_⟩
          refine steps_cons ?_ ?_
          · rintro b a w' ⟨y9x0_, A9x0_, d9x0_, u9x0_, t9x0_, y9x1_, A9x1_, d9x1_, u9x1_, t9x1_, y9x2_, A9x2_, d9x2_, u9x2_, t9x2_, ha, hX, r9x0_, r9x1_, r9x2_⟩ hb_ hon hoff
            refine ⟨_, rfl, fun K hK => ?_⟩
            obtain ⟨hu, hy, hg⟩ := r9x1_.e (hon 4 (by kernel_rfl))
            have e1 : a.tmps[41]? = some u9x1_ := by rw [ha]; exact putSel_on (e := (4, 41, u9x1_)) 3 rfl rfl (hon 4 (by kernel_rfl)) rfl
            rw [hu] at e1
            have e2 : a.tmps[43]? = some (.slice X1 G.f1.length y1) := by rw [ha]; exact putSel_on (e := (6, 43, .slice X1 G.f1.length y1)) 4 rfl rfl (hon 6 (by kernel_rfl)) rfl
            have hs : b 15 = false := hoff 15 (by kernel_rfl)
            have hlt : wo.heap.size < w'.heap.size := blk_lt hX.box
            replace ha := Aside0.mk ha
            refine copy_step (by rfl) (.tmp 41) (.tmp 43) 26 46 .i8 1 rfl Try.underlying26 info46 (by decide) y9x1_ G.f1 X1 G.f1.length y1 (eval_of e1) (eval_of e2) hy (Kd.C_below HX1.out (below_step HBo.out.bl hX.bl)) (by have := HLN.out; omega) (base := wo.heap.size + 1) hg ?_
            intro vN w1 hR hb
            obtain ⟨AN, dN, hvN⟩ := Kd.R_slice hR
            subst hvN
            refine hK.out _ _ ⟨y9x0_, A9x0_, d9x0_, u9x0_, t9x0_, y9x1_, AN, dN, u9x1_, .slice AN G.f1.length dN, y9x2_, A9x2_, d9x2_, u9x2_, t9x2_, (by rw [ha.out]; exact putSel_upk 5 hb_ rfl rfl rfl), (by have h := hX.below hb; rw [hs] at h; show OwX wo wx #[clx (b 13) A9x0_ G.f0.length d9x0_ (.slice X0 G.f0.length y0), clx (b 15) AN G.f1.length dN (.slice X1 G.f1.length y1), clx (b 17) A9x2_ G.f2.length d9x2_ (.slice X2 G.f2.length y2), .slice X3 G.f3.length y3, .slice X4 G.f4.length y4, .slice X5 G.f5.length y5, .slice X6 G.f6.length y6, .slice X7 G.f7.length y7, .slice X8 G.f8.length y8] w1; rw [hs]; exact h), r9x0_.below hb, ⟨(r9x1_.below hb).e, fun _ => ⟨rfl, Kd.R_mono hR (fun z hz => by rcases hz with h | h <;> omega)⟩⟩, r9x2_.below hb⟩
          refine steps_cons ?_ ?_
          · rintro b a w' ⟨y9x0_, A9x0_, d9x0_, u9x0_, t9x0_, y9x1_, A9x1_, d9x1_, u9x1_, t9x1_, y9x2_, A9x2_, d9x2_, u9x2_, t9x2_, ha, hX, r9x0_, r9x1_, r9x2_⟩ hb_ hon hoff
            refine ⟨_, rfl, fun K hK => ?_⟩
            replace ha := Aside0.mk ha
            replace hX := Aside0.mk hX
            have hb : Below w'.heap.size w' (w'.alloc (.cells #[] 46)) := below_alloc (Below.refl _ _) _
            have hlt : wo.heap.size < w'.heap.size := blk_lt hX.out.box
            refine value_ (w1 := w'.alloc (.cells #[] 46)) (v := .slice (some ⟨w'.heap.size, 0, none⟩) 0 0) (by rfl) rfl (by first | (go_simp; done) | (go_simp; rfl)) ?_
            refine hK.out _ _ ⟨y9x0_, A9x0_, d9x0_, u9x0_, t9x0_, y9x1_, A9x1_, d9x1_, u9x1_, t9x1_, w'.heap.size, A9x2_, d9x2_, .slice (some ⟨w'.heap.size, 0, none⟩) 0 0, t9x2_, (by rw [ha.out]; exact putSel_upk 6 hb_ rfl rfl rfl), hX.out.below hb, r9x0_.below hb, r9x1_.below hb, ⟨fun _ => ⟨rfl, blk_new w' _, hlt⟩, fun h_ => absurd ((hoff 11 (by kernel_rfl)).symm.trans h_) (by decide)⟩⟩
          refine steps_cons ?_ ?_
          · rintro b a w' ⟨y9x0_, A9x0_, d9x0_, u9x0_, t9x0_, y9x1_, A9x1_, d9x1_, u9x1_, t9x1_, y9x2_, A9x2_, d9x2_, u9x2_, t9x2_, ha, hX, r9x0_, r9x1_, r9x2_⟩ hb_ hon hoff
            refine ⟨_, rfl, fun K hK => ?_⟩
            have e1 : a.tmps[46]? = some (.pointer (some ⟨wo.heap.size, 2, none⟩)) := by rw [ha]; exact (putSel_off rfl).trans rfl
            have hc : w'.cell? ⟨wo.heap.size, 2, none⟩ = some (clx (b 17) A9x2_ G.f2.length d9x2_ (.slice X2 G.f2.length y2)) := (blk_cell hX.box 2).trans rfl
            rw [hoff 17 (by kernel_rfl)] at hc
            replace hc : w'.cell? ⟨wo.heap.size, 2, none⟩ = some (.slice X2 G.f2.length y2) := hc
            replace ha := Aside0.mk ha
            replace hX := Aside0.mk hX
            refine value_ (w1 := w') (v := .slice X2 G.f2.length y2) (by rfl) rfl ?_ ?_
            · go_simp
              (try simp only [i64_w])
              try rfl
            refine hK.out _ _ ⟨y9x0_, A9x0_, d9x0_, u9x0_, t9x0_, y9x1_, A9x1_, d9x1_, u9x1_, t9x1_, y9x2_, A9x2_, d9x2_, u9x2_, t9x2_, (by rw [ha.out]; exact putSel_upk 7 hb_ rfl rfl rfl), hX.out, r9x0_, r9x1_, r9x2_⟩
          refine steps_cons ?_ ?_
          · rintro b a w' ⟨y9x0_, A9x0_, d9x0_, u9x0_, t9x0_, y9x1_, A9x1_, d9x1_, u9x1_, t9x1_, y9x2_, A9x2_, d9x2_, u9x2_, t9x2_, ha, hX, r9x0_, r9x1_, r9x2_⟩ hb_ hon hoff
            refine ⟨_, rfl, fun K hK => ?_⟩
            obtain ⟨hu, hy, hg⟩ := r9x2_.e (hon 8 (by kernel_rfl))
            have e1 : a.tmps[45]? = some u9x2_ := by rw [ha]; exact putSel_on (e := (8, 45, u9x2_)) 6 rfl rfl (hon 8 (by kernel_rfl)) rfl
            rw [hu] at e1
            have e2 : a.tmps[47]? = some (.slice X2 G.f2.length y2) := by rw [ha]; exact putSel_on (e := (10, 47, .slice X2 G.f2.length y2)) 7 rfl rfl (hon 10 (by kernel_rfl)) rfl
            have hs : b 17 = false := hoff 17 (by kernel_rfl)
            have hlt : wo.heap.size < w'.heap.size := blk_lt hX.box
            replace ha := Aside0.mk ha
            refine copy_step (by rfl) (.tmp 45) (.tmp 47) 26 46 .i8 1 rfl Try.underlying26 info46 (by decide) y9x2_ G.f2 X2 G.f2.length y2 (eval_of e1) (eval_of e2) hy (Kd.C_below HX2.out (below_step HBo.out.bl hX.bl)) (by have := HLN.out; omega) (base := wo.heap.size + 1) hg ?_
            intro vN w1 hR hb
            obtain ⟨AN, dN, hvN⟩ := Kd.R_slice hR
            subst hvN
            refine hK.out _ _ ⟨y9x0_, A9x0_, d9x0_, u9x0_, t9x0_, y9x1_, A9x1_, d9x1_, u9x1_, t9x1_, y9x2_, AN, dN, u9x2_, .slice AN G.f2.length dN, (by rw [ha.out]; exact putSel_upk 8 hb_ rfl rfl rfl), (by have h := hX.below hb; rw [hs] at h; show OwX wo wx #[clx (b 13) A9x0_ G.f0.length d9x0_ (.slice X0 G.f0.length y0), clx (b 15) A9x1_ G.f1.length d9x1_ (.slice X1 G.f1.length y1), clx (b 17) AN G.f2.length dN (.slice X2 G.f2.length y2), .slice X3 G.f3.length y3, .slice X4 G.f4.length y4, .slice X5 G.f5.length y5, .slice X6 G.f6.length y6, .slice X7 G.f7.length y7, .slice X8 G.f8.length y8] w1; rw [hs]; exact h), r9x0_.below hb, r9x1_.below hb, ⟨(r9x2_.below hb).e, fun _ => ⟨rfl, Kd.R_mono hR (fun z hz => by rcases hz with h | h <;> omega)⟩⟩⟩
          refine steps_cons ?_ ?_
          · rintro b a w' ⟨y9x0_, A9x0_, d9x0_, u9x0_, t9x0_, y9x1_, A9x1_, d9x1_, u9x1_, t9x1_, y9x2_, A9x2_, d9x2_, u9x2_, t9x2_, ha, hX, r9x0_, r9x1_, r9x2_⟩ hb_ hon hoff
            refine ⟨_, rfl, fun K hK => ?_⟩
            have e1 : a.tmps[5]? = some (.pointer (some ⟨wo.heap.size, 0, none⟩)) := by rw [ha]; exact (putSel_off rfl).trans rfl
            replace ha := Aside0.mk ha
            replace hX := Aside0.mk hX
            refine value_ (w1 := w') (v := .pointer (some ⟨wo.heap.size, 0, none⟩)) (by rfl) rfl ?_ ?_
            · go_simp
              try rfl
            refine hK.out _ _ ⟨y9x0_, A9x0_, d9x0_, u9x0_, t9x0_, y9x1_, A9x1_, d9x1_, u9x1_, t9x1_, y9x2_, A9x2_, d9x2_, u9x2_, t9x2_, (by rw [ha.out]; exact putSel_upk 9 hb_ rfl rfl rfl), hX.out, r9x0_, r9x1_, r9x2_⟩
          refine steps_cons ?_ ?_
          · rintro b a w' ⟨y9x0_, A9x0_, d9x0_, u9x0_, t9x0_, y9x1_, A9x1_, d9x1_, u9x1_, t9x1_, y9x2_, A9x2_, d9x2_, u9x2_, t9x2_, ha, hX, r9x0_, r9x1_, r9x2_⟩ hb_ hon hoff
            refine ⟨_, rfl, fun K hK => ?_⟩
            obtain ⟨ht, hr⟩ := r9x0_.r (hon 3 (by kernel_rfl))
            have e1 : a.tmps[49]? = some (.pointer (some ⟨wo.heap.size, 0, none⟩)) := by rw [ha]; exact putSel_on (e := (12, 49, .pointer (some ⟨wo.heap.size, 0, none⟩))) 9 rfl rfl (hon 12 (by kernel_rfl)) rfl
            have e2 : a.tmps[40]? = some t9x0_ := by rw [ha]; exact putSel_on (e := (3, 40, t9x0_)) 2 rfl rfl (hon 3 (by kernel_rfl)) rfl
            rw [ht] at e2
            have hc : w'.cell? ⟨wo.heap.size, 0, none⟩ = some (clx (b 13) A9x0_ G.f0.length d9x0_ (.slice X0 G.f0.length y0)) := (blk_cell hX.box 0).trans rfl
            rw [hb_] at hc
            replace hc : w'.cell? ⟨wo.heap.size, 0, none⟩ = some (.slice X0 G.f0.length y0) := hc
            have hf := blk_frozen hX.box 0
            replace ha := Aside0.mk ha
            replace hX := Aside0.mk hX
            refine skip_ (w1 := w'.setCell ⟨wo.heap.size, 0, none⟩ (.slice A9x0_ G.f0.length d9x0_)) (by rfl) rfl ?_ ?_
            · go_simp
              try rfl
            refine hK.out _ _ ⟨y9x0_, A9x0_, d9x0_, u9x0_, t9x0_, y9x1_, A9x1_, d9x1_, u9x1_, t9x1_, y9x2_, A9x2_, d9x2_, u9x2_, t9x2_, (by rw [ha.out]; exact (putSel_same rfl).symm), hX.out.set 0 _, r9x0_.set 0 _, r9x1_.set 0 _, r9x2_.set 0 _⟩
          refine steps_cons ?_ ?_
          · rintro b a w' ⟨y9x0_, A9x0_, d9x0_, u9x0_, t9x0_, y9x1_, A9x1_, d9x1_, u9x1_, t9x1_, y9x2_, A9x2_, d9x2_, u9x2_, t9x2_, ha, hX, r9x0_, r9x1_, r9x2_⟩ hb_ hon hoff
            refine ⟨_, rfl, fun K hK => ?_⟩
            have e1 : a.tmps[5]? = some (.pointer (some ⟨wo.heap.size, 0, none⟩)) := by rw [ha]; exact (putSel_off rfl).trans rfl
            replace ha := Aside0.mk ha
            replace hX := Aside0.mk hX
            refine value_ (w1 := w') (v := .pointer (some ⟨wo.heap.size, 1, none⟩)) (by rfl) rfl ?_ ?_
            · go_simp
              try rfl
            refine hK.out _ _ ⟨y9x0_, A9x0_, d9x0_, u9x0_, t9x0_, y9x1_, A9x1_, d9x1_, u9x1_, t9x1_, y9x2_, A9x2_, d9x2_, u9x2_, t9x2_, (by rw [ha.out]; exact putSel_upk 10 hb_ rfl rfl rfl), hX.out, r9x0_, r9x1_, r9x2_⟩
          refine steps_cons ?_ ?_
          · rintro b a w' ⟨y9x0_, A9x0_, d9x0_, u9x0_, t9x0_, y9x1_, A9x1_, d9x1_, u9x1_, t9x1_, y9x2_, A9x2_, d9x2_, u9x2_, t9x2_, ha, hX, r9x0_, r9x1_, r9x2_⟩ hb_ hon hoff
            refine ⟨_, rfl, fun K hK => ?_⟩
            obtain ⟨ht, hr⟩ := r9x1_.r (hon 7 (by kernel_rfl))
            have e1 : a.tmps[50]? = some (.pointer (some ⟨wo.heap.size, 1, none⟩)) := by rw [ha]; exact putSel_on (e := (14, 50, .pointer (some ⟨wo.heap.size, 1, none⟩))) 10 rfl rfl (hon 14 (by kernel_rfl)) rfl
            have e2 : a.tmps[44]? = some t9x1_ := by rw [ha]; exact putSel_on (e := (7, 44, t9x1_)) 5 rfl rfl (hon 7 (by kernel_rfl)) rfl
            rw [ht] at e2
            have hc : w'.cell? ⟨wo.heap.size, 1, none⟩ = some (clx (b 15) A9x1_ G.f1.length d9x1_ (.slice X1 G.f1.length y1)) := (blk_cell hX.box 1).trans rfl
            rw [hb_] at hc
            replace hc : w'.cell? ⟨wo.heap.size, 1, none⟩ = some (.slice X1 G.f1.length y1) := hc
            have hf := blk_frozen hX.box 1
            replace ha := Aside0.mk ha
            replace hX := Aside0.mk hX
            refine skip_ (w1 := w'.setCell ⟨wo.heap.size, 1, none⟩ (.slice A9x1_ G.f1.length d9x1_)) (by rfl) rfl ?_ ?_
            · go_simp
              try rfl
            refine hK.out _ _ ⟨y9x0_, A9x0_, d9x0_, u9x0_, t9x0_, y9x1_, A9x1_, d9x1_, u9x1_, t9x1_, y9x2_, A9x2_, d9x2_, u9x2_, t9x2_, (by rw [ha.out]; exact (putSel_same rfl).symm), hX.out.set 1 _, r9x0_.set 1 _, r9x1_.set 1 _, r9x2_.set 1 _⟩
          refine steps_cons ?_ ?_
          · rintro b a w' ⟨y9x0_, A9x0_, d9x0_, u9x0_, t9x0_, y9x1_, A9x1_, d9x1_, u9x1_, t9x1_, y9x2_, A9x2_, d9x2_, u9x2_, t9x2_, ha, hX, r9x0_, r9x1_, r9x2_⟩ hb_ hon hoff
            refine ⟨_, rfl, fun K hK => ?_⟩
            have e1 : a.tmps[5]? = some (.pointer (some ⟨wo.heap.size, 0, none⟩)) := by rw [ha]; exact (putSel_off rfl).trans rfl
            replace ha := Aside0.mk ha
            replace hX := Aside0.mk hX
            refine value_ (w1 := w') (v := .pointer (some ⟨wo.heap.size, 2, none⟩)) (by rfl) rfl ?_ ?_
            · go_simp
              try rfl
            refine hK.out _ _ ⟨y9x0_, A9x0_, d9x0_, u9x0_, t9x0_, y9x1_, A9x1_, d9x1_, u9x1_, t9x1_, y9x2_, A9x2_, d9x2_, u9x2_, t9x2_, (by rw [ha.out]; exact putSel_upk 11 hb_ rfl rfl rfl), hX.out, r9x0_, r9x1_, r9x2_⟩
          refine steps_cons ?_ ?_
          · rintro b a w' ⟨y9x0_, A9x0_, d9x0_, u9x0_, t9x0_, y9x1_, A9x1_, d9x1_, u9x1_, t9x1_, y9x2_, A9x2_, d9x2_, u9x2_, t9x2_, ha, hX, r9x0_, r9x1_, r9x2_⟩ hb_ hon hoff
            refine ⟨_, rfl, fun K hK => ?_⟩
            obtain ⟨ht, hr⟩ := r9x2_.r (hon 11 (by kernel_rfl))
            have e1 : a.tmps[51]? = some (.pointer (some ⟨wo.heap.size, 2, none⟩)) := by rw [ha]; exact putSel_on (e := (16, 51, .pointer (some ⟨wo.heap.size, 2, none⟩))) 11 rfl rfl (hon 16 (by kernel_rfl)) rfl
            have e2 : a.tmps[48]? = some t9x2_ := by rw [ha]; exact putSel_on (e := (11, 48, t9x2_)) 8 rfl rfl (hon 11 (by kernel_rfl)) rfl
            rw [ht] at e2
            have hc : w'.cell? ⟨wo.heap.size, 2, none⟩ = some (clx (b 17) A9x2_ G.f2.length d9x2_ (.slice X2 G.f2.length y2)) := (blk_cell hX.box 2).trans rfl
            rw [hb_] at hc
            replace hc : w'.cell? ⟨wo.heap.size, 2, none⟩ = some (.slice X2 G.f2.length y2) := hc
            have hf := blk_frozen hX.box 2
            replace ha := Aside0.mk ha
            replace hX := Aside0.mk hX
            refine skip_ (w1 := w'.setCell ⟨wo.heap.size, 2, none⟩ (.slice A9x2_ G.f2.length d9x2_)) (by rfl) rfl ?_ ?_
            · go_simp
              try rfl
            refine hK.out _ _ ⟨y9x0_, A9x0_, d9x0_, u9x0_, t9x0_, y9x1_, A9x1_, d9x1_, u9x1_, t9x1_, y9x2_, A9x2_, d9x2_, u9x2_, t9x2_, (by rw [ha.out]; exact (putSel_same rfl).symm), hX.out.set 2 _, r9x0_.set 2 _, r9x1_.set 2 _, r9x2_.set 2 _⟩
          exact steps_nil
        · rintro b a w9z hall ⟨y9x0_, A9x0_, d9x0_, u9x0_, t9x0_, y9x1_, A9x1_, d9x1_, u9x1_, t9x1_, y9x2_, A9x2_, d9x2_, u9x2_, t9x2_, ha, hX, r9x0_, r9x1_, r9x2_⟩
          clear HX
          have hb0_ := hall 0 (by kernel_rfl)
          have hb2_ := hall 2 (by kernel_rfl)
          have hb3_ := hall 3 (by kernel_rfl)
          have hb4_ := hall 4 (by kernel_rfl)
          have hb6_ := hall 6 (by kernel_rfl)
          have hb7_ := hall 7 (by kernel_rfl)
          have hb8_ := hall 8 (by kernel_rfl)
          have hb10_ := hall 10 (by kernel_rfl)
          have hb11_ := hall 11 (by kernel_rfl)
          have hb12_ := hall 12 (by kernel_rfl)
          have hb13_ := hall 13 (by kernel_rfl)
          have hb14_ := hall 14 (by kernel_rfl)
          have hb15_ := hall 15 (by kernel_rfl)
          have hb16_ := hall 16 (by kernel_rfl)
          have hb17_ := hall 17 (by kernel_rfl)
          subst ha
          obtain ⟨hu0, _, _⟩ := r9x0_.e hb0_
          obtain ⟨ht0, hr0⟩ := r9x0_.r hb3_
          subst hu0
          subst ht0
          obtain ⟨hu1, _, _⟩ := r9x1_.e hb4_
          obtain ⟨ht1, hr1⟩ := r9x1_.r hb7_
          subst hu1
          subst ht1
          obtain ⟨hu2, _, _⟩ := r9x2_.e hb8_
          obtain ⟨ht2, hr2⟩ := r9x2_.r hb11_
          subst hu2
          subst ht2
          simp only [clx, hb13_, hb15_, hb17_, if_true] at hX
          simp only [putSel, hb0_, hb2_, hb3_, hb4_, hb6_, hb7_, hb8_, hb10_, hb11_, hb12_, hb13_, hb14_, hb15_, hb16_, hb17_, if_true, Act.put, List.setIfInBounds_toArray, List.set_cons_zero, List.set_cons_succ]
          have HX := Aside0.mk hX
          have HR0 := Aside0.mk hr0
          have HR1 := Aside0.mk hr1
          have HR2 := Aside0.mk hr2
          clear hX hall hb0_ hb2_ hb3_ hb4_ hb6_ hb7_ hb8_ hb10_ hb11_ hb12_ hb13_ hb14_ hb15_ hb16_ hb17_ r9x0_ r9x1_ r9x2_ hr0 hr1 hr2
          go_upto_region 10 with fail
          (try simp only [Act.put, List.setIfInBounds_toArray, List.set_cons_zero, List.set_cons_succ])
          have HX9 := Aside0.mk (show OwX wo w9z #[.slice A9x0_ G.f0.length d9x0_, .slice A9x1_ G.f1.length d9x1_, .slice A9x2_ G.f2.length d9x2_, .slice X3 G.f3.length y3, .slice X4 G.f4.length y4, .slice X5 G.f5.length y5, .slice X6 G.f6.length y6, .slice X7 G.f7.length y7, .slice X8 G.f8.length y8] w9z from ⟨HX.out.box, HX.out.bl, ⟨Nat.le_refl _, fun _ _ _ => rfl⟩⟩)
          clear HX
          have HX := HX9
          clear HX9
          refine start_ (n := 24) (S := fun w' => True) (ds := []) #[false, false, false, false, false, false, false, false, false, false, false, false, false, false, false, false, false, false, false, false, false, false, false, false] (by kernel_rfl) rfl rfl trivial (fun hHeld => ?_)
          refine pure_ (i := 1) (N := some 53) (v := ?_) (a' := ?_) #[false, true, false, false, false, false, false, false, false, false, false, false, false, false, false, false, false, false, false, false, false, false, false, false] rfl rfl (by kernel_rfl) (fun _ _ _ h => h) (Or.inl ⟨by rfl, ?_⟩) ?_ ?_
          rotate_left
          · intro w'
            go_simp
            with_reducible rfl
          rotate_left
          · simp only [Act.put, List.setIfInBounds_toArray, List.set_cons_zero, List.set_cons_succ, i64_w, i32_w]
            rfl
          refine pure_ (i := 5) (N := some 57) (v := ?_) (a' := ?_) #[false, true, false, false, false, true, false, false, false, false, false, false, false, false, false, false, false, false, false, false, false, false, false, false] rfl rfl (by kernel_rfl) (fun _ _ _ h => h) (Or.inl ⟨by rfl, ?_⟩) ?_ ?_
          rotate_left
          · intro w'
            go_simp
            with_reducible rfl
          rotate_left
          · simp only [Act.put, List.setIfInBounds_toArray, List.set_cons_zero, List.set_cons_succ, i64_w, i32_w]
            rfl
          refine pure_ (i := 9) (N := some 61) (v := ?_) (a' := ?_) #[false, true, false, false, false, true, false, false, false, true, false, false, false, false, false, false, false, false, false, false, false, false, false, false] rfl rfl (by kernel_rfl) (fun _ _ _ h => h) (Or.inl ⟨by rfl, ?_⟩) ?_ ?_
          rotate_left
          · intro w'
            go_simp
            with_reducible rfl
          rotate_left
          · simp only [Act.put, List.setIfInBounds_toArray, List.set_cons_zero, List.set_cons_succ, i64_w, i32_w]
            rfl
          refine pure_ (i := 13) (N := some 65) (v := ?_) (a' := ?_) #[false, true, false, false, false, true, false, false, false, true, false, false, false, true, false, false, false, false, false, false, false, false, false, false] rfl rfl (by kernel_rfl) (fun _ _ _ h => h) (Or.inl ⟨by rfl, ?_⟩) ?_ ?_
          rotate_left
          · intro w'
            go_simp
            with_reducible rfl
          rotate_left
          · simp only [Act.put, List.setIfInBounds_toArray, List.set_cons_zero, List.set_cons_succ, i64_w, i32_w]
            rfl
          refine inv_at [0, 2, 3, 4, 6, 7, 8, 10, 11, 12, 14, 15, 16, 17, 18, 19, 20, 21, 22, 23] (fun a0_ b a w' => ∃ (y10x0_ : Nat) (A10x0_ : Option Addr) (d10x0_ : Nat) (u10x0_ : Value) (t10x0_ : Value) (y10x1_ : Nat) (A10x1_ : Option Addr) (d10x1_ : Nat) (u10x1_ : Value) (t10x1_ : Value) (y10x2_ : Nat) (A10x2_ : Option Addr) (d10x2_ : Nat) (u10x2_ : Value) (t10x2_ : Value) (y10x3_ : Nat) (A10x3_ : Option Addr) (d10x3_ : Nat) (u10x3_ : Value) (t10x3_ : Value), a = putSel a0_ b [(0, 52, u10x0_), (2, 54, .slice X3 G.f3.length y3), (3, 55, t10x0_), (4, 56, u10x1_), (6, 58, .slice X4 G.f4.length y4), (7, 59, t10x1_), (8, 60, u10x2_), (10, 62, .slice X5 G.f5.length y5), (11, 63, t10x2_), (12, 64, u10x3_), (14, 66, .slice X6 G.f6.length y6), (15, 67, t10x3_), (16, 68, .pointer (some ⟨wo.heap.size, 3, none⟩)), (18, 69, .pointer (some ⟨wo.heap.size, 4, none⟩)), (20, 70, .pointer (some ⟨wo.heap.size, 5, none⟩)), (22, 71, .pointer (some ⟨wo.heap.size, 6, none⟩))] ∧ OwX wo w9z #[.slice A9x0_ G.f0.length d9x0_, .slice A9x1_ G.f1.length d9x1_, .slice A9x2_ G.f2.length d9x2_, clx (b 17) A10x0_ G.f3.length d10x0_ (.slice X3 G.f3.length y3), clx (b 19) A10x1_ G.f4.length d10x1_ (.slice X4 G.f4.length y4), clx (b 21) A10x2_ G.f5.length d10x2_ (.slice X5 G.f5.length y5), clx (b 23) A10x3_ G.f6.length d10x3_ (.slice X6 G.f6.length y6), .slice X7 G.f7.length y7, .slice X8 G.f8.length y8] w' ∧ OwRow wo.heap.size (b 0) (b 3) G.f3 y10x0_ A10x0_ d10x0_ u10x0_ t10x0_ w' ∧ OwRow wo.heap.size (b 4) (b 7) G.f4 y10x1_ A10x1_ d10x1_ u10x1_ t10x1_ w' ∧ OwRow wo.heap.size (b 8) (b 11) G.f5 y10x2_ A10x2_ d10x2_ u10x2_ t10x2_ w' ∧ OwRow wo.heap.size (b 12) (b 15) G.f6 y10x3_ A10x3_ d10x3_ u10x3_ t10x3_ w') aviarylaw09_Own.tab10 aviarylaw09_Own.bits10 (by kernel_rfl) (by kernel_rfl) ?_ ?_ ?_
          · exact ⟨0, none, 0, .nilIface, .nilIface, 0, none, 0, .nilIface, .nilIface, 0, none, 0, .nilIface, .nilIface, 0, none, 0, .nilIface, .nilIface, by simp only [putSel, Bool.false_eq_true, if_false], ⟨(HX.out.below (below_drew1 (Below.refl _ _))).box, (HX.out.below (below_drew1 (Below.refl _ _))).bl, (HX.out.below (below_drew1 (Below.refl _ _))).kp⟩, OwRow.start _ _ _, OwRow.start _ _ _, OwRow.start _ _ _, OwRow.start _ _ _⟩
          · clear HX
            refine steps_cons ?_ ?_
            · rintro b a w' ⟨y10x0_, A10x0_, d10x0_, u10x0_, t10x0_, y10x1_, A10x1_, d10x1_, u10x1_, t10x1_, y10x2_, A10x2_, d10x2_, u10x2_, t10x2_, y10x3_, A10x3_, d10x3_, u10x3_, t10x3_, ha, hX, r10x0_, r10x1_, r10x2_, r10x3_⟩ hb_ hon hoff
              refine ⟨_, rfl, fun K hK => ?_⟩
              replace ha := Aside0.mk ha
              replace hX := Aside0.mk hX
              have hb : Below w'.heap.size w' (w'.alloc (.cells #[] 46)) := below_alloc (Below.refl _ _) _
              have hlt : wo.heap.size < w'.heap.size := blk_lt hX.out.box
              refine value_ (w1 := w'.alloc (.cells #[] 46)) (v := .slice (some ⟨w'.heap.size, 0, none⟩) 0 0) (by rfl) rfl (by first | (go_simp; done) | (go_simp; rfl)) ?_
              refine hK.out _ _ ⟨w'.heap.size, A10x0_, d10x0_, .slice (some ⟨w'.heap.size, 0, none⟩) 0 0, t10x0_, y10x1_, A10x1_, d10x1_, u10x1_, t10x1_, y10x2_, A10x2_, d10x2_, u10x2_, t10x2_, y10x3_, A10x3_, d10x3_, u10x3_, t10x3_, (by rw [ha.out]; exact putSel_upk 0 hb_ rfl rfl rfl), hX.out.below hb, ⟨fun _ => ⟨rfl, blk_new w' _, hlt⟩, fun h_ => absurd ((hoff 3 (by kernel_rfl)).symm.trans h_) (by decide)⟩, r10x1_.below hb, r10x2_.below hb, r10x3_.below hb⟩
            refine steps_cons ?_ ?_
            · rintro b a w' ⟨y10x0_, A10x0_, d10x0_, u10x0_, t10x0_, y10x1_, A10x1_, d10x1_, u10x1_, t10x1_, y10x2_, A10x2_, d10x2_, u10x2_, t10x2_, y10x3_, A10x3_, d10x3_, u10x3_, t10x3_, ha, hX, r10x0_, r10x1_, r10x2_, r10x3_⟩ hb_ hon hoff
              refine ⟨_, rfl, fun K hK => ?_⟩
              have e1 : a.tmps[53]? = some (.pointer (some ⟨wo.heap.size, 3, none⟩)) := by rw [ha]; exact (putSel_off rfl).trans rfl
              have hc : w'.cell? ⟨wo.heap.size, 3, none⟩ = some (clx (b 17) A10x0_ G.f3.length d10x0_ (.slice X3 G.f3.length y3)) := (blk_cell hX.box 3).trans rfl
              rw [hoff 17 (by kernel_rfl)] at hc
              replace hc : w'.cell? ⟨wo.heap.size, 3, none⟩ = some (.slice X3 G.f3.length y3) := hc
              replace ha := Aside0.mk ha
              replace hX := Aside0.mk hX
              refine value_ (w1 := w') (v := .slice X3 G.f3.length y3) (by rfl) rfl ?_ ?_
              · go_simp
                (try simp only [i64_w])
                try rfl
              refine hK.out _ _ ⟨y10x0_, A10x0_, d10x0_, u10x0_, t10x0_, y10x1_, A10x1_, d10x1_, u10x1_, t10x1_, y10x2_, A10x2_, d10x2_, u10x2_, t10x2_, y10x3_, A10x3_, d10x3_, u10x3_, t10x3_, (by rw [ha.out]; exact putSel_upk 1 hb_ rfl rfl rfl), hX.out, r10x0_, r10x1_, r10x2_, r10x3_⟩
            refine steps_cons ?_ ?_
            · rintro b a w' ⟨y10x0_, A10x0_, d10x0_, u10x0_, t10x0_, y10x1_, A10x1_, d10x1_, u10x1_, t10x1_, y10x2_, A10x2_, d10x2_, u10x2_, t10x2_, y10x3_, A10x3_, d10x3_, u10x3_, t10x3_, ha, hX, r10x0_, r10x1_, r10x2_, r10x3_⟩ hb_ hon hoff
              refine ⟨_, rfl, fun K hK => ?_⟩
              obtain ⟨hu, hy, hg⟩ := r10x0_.e (hon 0 (by kernel_rfl))
              have e1 : a.tmps[52]? = some u10x0_ := by rw [ha]; exact putSel_on (e := (0, 52, u10x0_)) 0 rfl rfl (hon 0 (by kernel_rfl)) rfl
              rw [hu] at e1
              have e2 : a.tmps[54]? = some (.slice X3 G.f3.length y3) := by rw [ha]; exact putSel_on (e := (2, 54, .slice X3 G.f3.length y3)) 1 rfl rfl (hon 2 (by kernel_rfl)) rfl
              have hs : b 17 = false := hoff 17 (by kernel_rfl)
              have hlt : wo.heap.size < w'.heap.size := blk_lt hX.box
              replace ha := Aside0.mk ha
              refine copy_step (by rfl) (.tmp 52) (.tmp 54) 26 46 .i8 1 rfl Try.underlying26 info46 (by decide) y10x0_ G.f3 X3 G.f3.length y3 (eval_of e1) (eval_of e2) hy (Kd.C_below HX3.out (below_step HBo.out.bl hX.bl)) (by have := HLN.out; omega) (base := wo.heap.size + 1) hg ?_
              intro vN w1 hR hb
              obtain ⟨AN, dN, hvN⟩ := Kd.R_slice hR
              subst hvN
              refine hK.out _ _ ⟨y10x0_, AN, dN, u10x0_, .slice AN G.f3.length dN, y10x1_, A10x1_, d10x1_, u10x1_, t10x1_, y10x2_, A10x2_, d10x2_, u10x2_, t10x2_, y10x3_, A10x3_, d10x3_, u10x3_, t10x3_, (by rw [ha.out]; exact putSel_upk 2 hb_ rfl rfl rfl), (by have h := hX.below hb; rw [hs] at h; show OwX wo w9z #[.slice A9x0_ G.f0.length d9x0_, .slice A9x1_ G.f1.length d9x1_, .slice A9x2_ G.f2.length d9x2_, clx (b 17) AN G.f3.length dN (.slice X3 G.f3.length y3), clx (b 19) A10x1_ G.f4.length d10x1_ (.slice X4 G.f4.length y4), clx (b 21) A10x2_ G.f5.length d10x2_ (.slice X5 G.f5.length y5), clx (b 23) A10x3_ G.f6.length d10x3_ (.slice X6 G.f6.length y6), .slice X7 G.f7.length y7, .slice X8 G.f8.length y8] w1; rw [hs]; exact h), ⟨(r10x0_.below hb).e, fun _ => ⟨rfl, Kd.R_mono hR (fun z hz => by rcases hz with h | h <;> omega)⟩⟩, r10x1_.below hb, r10x2_.below hb, r10x3_.below hb⟩
            refine steps_cons ?_ ?_
            · rintro b a w' ⟨y10x0_, A10x0_, d10x0_, u10x0_, t10x0_, y10x1_, A10x1_, d10x1_, u10x1_, t10x1_, y10x2_, A10x2_, d10x2_, u10x2_, t10x2_, y10x3_, A10x3_, d10x3_, u10x3_, t10x3_, ha, hX, r10x0_, r10x1_, r10x2_, r10x3_⟩ hb_ hon hoff
              refine ⟨_, rfl, fun K hK => ?_⟩
              replace ha := Aside0.mk ha
              replace hX := Aside0.mk hX
              have hb : Below w'.heap.size w' (w'.alloc (.cells #[] 46)) := below_alloc (Below.refl _ _) _
              have hlt : wo.heap.size < w'.heap.size := blk_lt hX.out.box
              refine value_ (w1 := w'.alloc (.cells #[] 46)) (v := .slice (some ⟨w'.heap.size, 0, none⟩) 0 0) (by rfl) rfl (by first | (go_simp; done) | (go_simp; rfl)) ?_
              refine hK.out _ _ ⟨y10x0_, A10x0_, d10x0_, u10x0_, t10x0_, w'.heap.size, A10x1_, d10x1_, .slice (some ⟨w'.heap.size, 0, none⟩) 0 0, t10x1_, y10x2_, A10x2_, d10x2_, u10x2_, t10x2_, y10x3_, A10x3_, d10x3_, u10x3_, t10x3_, (by rw [ha.out]; exact putSel_upk 3 hb_ rfl rfl rfl), hX.out.below hb, r10x0_.below hb, ⟨fun _ => ⟨rfl, blk_new w' _, hlt⟩, fun h_ => absurd ((hoff 7 (by kernel_rfl)).symm.trans h_) (by decide)⟩, r10x2_.below hb, r10x3_.below hb⟩
            refine steps_cons ?_ ?_
            · rintro b a w' ⟨y10x0_, A10x0_, d10x0_, u10x0_, t10x0_, y10x1_, A10x1_, d10x1_, u10x1_, t10x1_, y10x2_, A10x2_, d10x2_, u10x2_, t10x2_, y10x3_, A10x3_, d10x3_, u10x3_, t10x3_, ha, hX, r10x0_, r10x1_, r10x2_, r10x3_⟩ hb_ hon hoff
              refine ⟨_, rfl, fun K hK => ?_⟩
              have e1 : a.tmps[57]? = some (.pointer (some ⟨wo.heap.size, 4, none⟩)) := by rw [ha]; exact (putSel_off rfl).trans rfl
              have hc : w'.cell? ⟨wo.heap.size, 4, none⟩ = some (clx (b 19) A10x1_ G.f4.length d10x1_ (.slice X4 G.f4.length y4)) := (blk_cell hX.box 4).trans rfl
              rw [hoff 19 (by kernel_rfl)] at hc
              replace hc : w'.cell? ⟨wo.heap.size, 4, none⟩ = some (.slice X4 G.f4.length y4) := hc
              replace ha := Aside0.mk ha
              replace hX := Aside0.mk hX
              refine value_ (w1 := w') (v := .slice X4 G.f4.length y4) (by rfl) rfl ?_ ?_
              · go_simp
                (try simp only [i64_w])
                try rfl
              refine hK.out _ _ ⟨y10x0_, A10x0_, d10x0_, u10x0_, t10x0_, y10x1_, A10x1_, d10x1_, u10x1_, t10x1_, y10x2_, A10x2_, d10x2_, u10x2_, t10x2_, y10x3_, A10x3_, d10x3_, u10x3_, t10x3_, (by rw [ha.out]; exact putSel_upk 4 hb_ rfl rfl rfl), hX.out, r10x0_, r10x1_, r10x2_, r10x3_⟩
            refine steps_cons ?_ ?_
            · rintro b a w' ⟨y10x0_, A10x0_, d10x0_, u10x0_, t10x0_, y10x1_, A10x1_, d10x1_, u10x1_, t10x1_, y10x2_, A10x2_, d10x2_, u10x2_, t10x2_, y10x3_, A10x3_, d10x3_, u10x3_, t10x3_, ha, hX, r10x0_, r10x1_, r10x2_, r10x3_⟩ hb_ hon hoff
              refine ⟨_, rfl, fun K hK => ?_⟩
              obtain ⟨hu, hy, hg⟩ := r10x1_.e (hon 4 (by kernel_rfl))
              have e1 : a.tmps[56]? = some u10x1_ := by rw [ha]; exact putSel_on (e := (4, 56, u10x1_)) 3 rfl rfl (hon 4 (by kernel_rfl)) rfl
              rw [hu] at e1
              have e2 : a.tmps[58]? = some (.slice X4 G.f4.length y4) := by rw [ha]; exact putSel_on (e := (6, 58, .slice X4 G.f4.length y4)) 4 rfl rfl (hon 6 (by kernel_rfl)) rfl
              have hs : b 19 = false := hoff 19 (by kernel_rfl)
              have hlt : wo.heap.size < w'.heap.size := blk_lt hX.box
              replace ha := Aside0.mk ha
              refine copy_step (by rfl) (.tmp 56) (.tmp 58) 26 46 .i8 1 rfl Try.underlying26 info46 (by decide) y10x1_ G.f4 X4 G.f4.length y4 (eval_of e1) (eval_of e2) hy (Kd.C_below HX4.out (below_step HBo.out.bl hX.bl)) (by have := HLN.out; omega) (base := wo.heap.size + 1) hg ?_
              intro vN w1 hR hb
              obtain ⟨AN, dN, hvN⟩ := Kd.R_slice hR
              subst hvN
              refine hK.out _ _ ⟨y10x0_, A10x0_, d10x0_, u10x0_, t10x0_, y10x1_, AN, dN, u10x1_, .slice AN G.f4.length dN, y10x2_, A10x2_, d10x2_, u10x2_, t10x2_, y10x3_, A10x3_, d10x3_, u10x3_, t10x3_, (by rw [ha.out]; exact putSel_upk 5 hb_ rfl rfl rfl), (by have h := hX.below hb; rw [hs] at h; show OwX wo w9z #[.slice A9x0_ G.f0.length d9x0_, .slice A9x1_ G.f1.length d9x1_, .slice A9x2_ G.f2.length d9x2_, clx (b 17) A10x0_ G.f3.length d10x0_ (.slice X3 G.f3.length y3), clx (b 19) AN G.f4.length dN (.slice X4 G.f4.length y4), clx (b 21) A10x2_ G.f5.length d10x2_ (.slice X5 G.f5.length y5), clx (b 23) A10x3_ G.f6.length d10x3_ (.slice X6 G.f6.length y6), .slice X7 G.f7.length y7, .slice X8 G.f8.length y8] w1; rw [hs]; exact h), r10x0_.below hb, ⟨(r10x1_.below hb).e, fun _ => ⟨rfl, Kd.R_mono hR (fun z hz => by rcases hz with h | h <;> omega)⟩⟩, r10x2_.below hb, r10x3_.below hb⟩
            refine steps_cons ?_ ?_
            · rintro b a w' ⟨y10x0_, A10x0_, d10x0_, u10x0_, t10x0_, y10x1_, A10x1_, d10x1_, u10x1_, t10x1_, y10x2_, A10x2_, d10x2_, u10x2_, t10x2_, y10x3_, A10x3_, d10x3_, u10x3_, t10x3_, ha, hX, r10x0_, r10x1_, r10x2_, r10x3_⟩ hb_ hon hoff
              refine ⟨_, rfl, fun K hK => ?_⟩
              replace ha := Aside0.mk ha
              replace hX := Aside0.mk hX
              have hb : Below w'.heap.size w' (w'.alloc (.cells #[] 46)) := below_alloc (Below.refl _ _) _
              have hlt : wo.heap.size < w'.heap.size := blk_lt hX.out.box
              refine value_ (w1 := w'.alloc (.cells #[] 46)) (v := .slice (some ⟨w'.heap.size, 0, none⟩) 0 0) (by rfl) rfl (by first | (go_simp; done) | (go_simp; rfl)) ?_
              refine hK.out _ _ ⟨y10x0_, A10x0_, d10x0_, u10x0_, t10x0_, y10x1_, A10x1_, d10x1_, u10x1_, t10x1_, w'.heap.size, A10x2_, d10x2_, .slice (some ⟨w'.heap.size, 0, none⟩) 0 0, t10x2_, y10x3_, A10x3_, d10x3_, u10x3_, t10x3_, (by rw [ha.out]; exact putSel_upk 6 hb_ rfl rfl rfl), hX.out.below hb, r10x0_.below hb, r10x1_.below hb, ⟨fun _ => ⟨rfl, blk_new w' _, hlt⟩, fun h_ => absurd ((hoff 11 (by kernel_rfl)).symm.trans h_) (by decide)⟩, r10x3_.below hb⟩
            refine steps_cons ?_ ?_
            · rintro b a w' ⟨y10x0_, A10x0_, d10x0_, u10x0_, t10x0_, y10x1_, A10x1_, d10x1_, u10x1_, t10x1_, y10x2_, A10x2_, d10x2_, u10x2_, t10x2_, y10x3_, A10x3_, d10x3_, u10x3_, t10x3_, ha, hX, r10x0_, r10x1_, r10x2_, r10x3_⟩ hb_ hon hoff
              refine ⟨_, rfl, fun K hK => ?_⟩
              have e1 : a.tmps[61]? = some (.pointer (some ⟨wo.heap.size, 5, none⟩)) := by rw [ha]; exact (putSel_off rfl).trans rfl
              have hc : w'.cell? ⟨wo.heap.size, 5, none⟩ = some (clx (b 21) A10x2_ G.f5.length d10x2_ (.slice X5 G.f5.length y5)) := (blk_cell hX.box 5).trans rfl
              rw [hoff 21 (by kernel_rfl)] at hc
              replace hc : w'.cell? ⟨wo.heap.size, 5, none⟩ = some (.slice X5 G.f5.length y5) := hc
              replace ha := Aside0.mk ha
              replace hX := Aside0.mk hX
              refine value_ (w1 := w') (v := .slice X5 G.f5.length y5) (by rfl) rfl ?_ ?_
              · go_simp
                (try simp only [i64_w])
                try rfl
              refine hK.out _ _ ⟨y10x0_, A10x0_, d10x0_, u10x0_, t10x0_, y10x1_, A10x1_, d10x1_, u10x1_, t10x1_, y10x2_, A10x2_, d10x2_, u10x2_, t10x2_, y10x3_, A10x3_, d10x3_, u10x3_, t10x3_, (by rw [ha.out]; exact putSel_upk 7 hb_ rfl rfl rfl), hX.out, r10x0_, r10x1_, r10x2_, r10x3_⟩
            refine steps_cons ?_ ?_
            · rintro b a w' ⟨y10x0_, A10x0_, d10x0_, u10x0_, t10x0_, y10x1_, A10x1_, d10x1_, u10x1_, t10x1_, y10x2_, A10x2_, d10x2_, u10x2_, t10x2_, y10x3_, A10x3_, d10x3_, u10x3_, t10x3_, ha, hX, r10x0_, r10x1_, r10x2_, r10x3_⟩ hb_ hon hoff
              refine ⟨_, rfl, fun K hK => ?_⟩
              obtain ⟨hu, hy, hg⟩ := r10x2_.e (hon 8 (by kernel_rfl))
              have e1 : a.tmps[60]? = some u10x2_ := by rw [ha]; exact putSel_on (e := (8, 60, u10x2_)) 6 rfl rfl (hon 8 (by kernel_rfl)) rfl
              rw [hu] at e1
              have e2 : a.tmps[62]? = some (.slice X5 G.f5.length y5) := by rw [ha]; exact putSel_on (e := (10, 62, .slice X5 G.f5.length y5)) 7 rfl rfl (hon 10 (by kernel_rfl)) rfl
              have hs : b 21 = false := hoff 21 (by kernel_rfl)
              have hlt : wo.heap.size < w'.heap.size := blk_lt hX.box
              replace ha := Aside0.mk ha
              refine copy_step (by rfl) (.tmp 60) (.tmp 62) 26 46 .i8 1 rfl Try.underlying26 info46 (by decide) y10x2_ G.f5 X5 G.f5.length y5 (eval_of e1) (eval_of e2) hy (Kd.C_below HX5.out (below_step HBo.out.bl hX.bl)) (by have := HLN.out; omega) (base := wo.heap.size + 1) hg ?_
              intro vN w1 hR hb
              obtain ⟨AN, dN, hvN⟩ := Kd.R_slice hR
              subst hvN
              refine hK.out _ _ ⟨y10x0_, A10x0_, d10x0_, u10x0_, t10x0_, y10x1_, A10x1_, d10x1_, u10x1_, t10x1_, y10x2_, AN, dN, u10x2_, .slice AN G.f5.length dN, y10x3_, A10x3_, d10x3_, u10x3_, t10x3_, (by rw [ha.out]; exact putSel_upk 8 hb_ rfl rfl rfl), (by have h := hX.below hb; rw [hs] at h; show OwX wo w9z #[.slice A9x0_ G.f0.length d9x0_, .slice A9x1_ G.f1.length d9x1_, .slice A9x2_ G.f2.length d9x2_, clx (b 17) A10x0_ G.f3.length d10x0_ (.slice X3 G.f3.length y3), clx (b 19) A10x1_ G.f4.length d10x1_ (.slice X4 G.f4.length y4), clx (b 21) AN G.f5.length dN (.slice X5 G.f5.length y5), clx (b 23) A10x3_ G.f6.length d10x3_ (.slice X6 G.f6.length y6), .slice X7 G.f7.length y7, .slice X8 G.f8.length y8] w1; rw [hs]; exact h), r10x0_.below hb, r10x1_.below hb, ⟨(r10x2_.below hb).e, fun _ => ⟨rfl, Kd.R_mono hR (fun z hz => by rcases hz with h | h <;> omega)⟩⟩, r10x3_.below hb⟩
            refine steps_cons ?_ ?_
            · rintro b a w' ⟨y10x0_, A10x0_, d10x0_, u10x0_, t10x0_, y10x1_, A10x1_, d10x1_, u10x1_, t10x1_, y10x2_, A10x2_, d10x2_, u10x2_, t10x2_, y10x3_, A10x3_, d10x3_, u10x3_, t10x3_, ha, hX, r10x0_, r10x1_, r10x2_, r10x3_⟩ hb_ hon hoff
              refine ⟨_, rfl, fun K hK => ?_⟩
              replace ha := Aside0.mk ha
              replace hX := Aside0.mk hX
              have hb : Below w'.heap.size w' (w'.alloc (.cells #[] 46)) := below_alloc (Below.refl _ _) _
              have hlt : wo.heap.size < w'.heap.size := blk_lt hX.out.box
              refine value_ (w1 := w'.alloc (.cells #[] 46)) (v := .slice (some ⟨w'.heap.size, 0, none⟩) 0 0) (by rfl) rfl (by first | (go_simp; done) | (go_simp; rfl)) ?_
              refine hK.out _ _ ⟨y10x0_, A10x0_, d10x0_, u10x0_, t10x0_, y10x1_, A10x1_, d10x1_, u10x1_, t10x1_, y10x2_, A10x2_, d10x2_, u10x2_, t10x2_, w'.heap.size, A10x3_, d10x3_, .slice (some ⟨w'.heap.size, 0, none⟩) 0 0, t10x3_, (by rw [ha.out]; exact putSel_upk 9 hb_ rfl rfl rfl), hX.out.below hb, r10x0_.below hb, r10x1_.below hb, r10x2_.below hb, ⟨fun _ => ⟨rfl, blk_new w' _, hlt⟩, fun h_ => absurd ((hoff 15 (by kernel_rfl)).symm.trans h_) (by decide)⟩⟩
            refine steps_cons ?_ ?_
            · rintro b a w' ⟨y10x0_, A10x0_, d10x0_, u10x0_, t10x0_, y10x1_, A10x1_, d10x1_, u10x1_, t10x1_, y10x2_, A10x2_, d10x2_, u10x2_, t10x2_, y10x3_, A10x3_, d10x3_, u10x3_, t10x3_, ha, hX, r10x0_, r10x1_, r10x2_, r10x3_⟩ hb_ hon hoff
              refine ⟨_, rfl, fun K hK => ?_⟩
              have e1 : a.tmps[65]? = some (.pointer (some ⟨wo.heap.size, 6, none⟩)) := by rw [ha]; exact (putSel_off rfl).trans rfl
              have hc : w'.cell? ⟨wo.heap.size, 6, none⟩ = some (clx (b 23) A10x3_ G.f6.length d10x3_ (.slice X6 G.f6.length y6)) := (blk_cell hX.box 6).trans rfl
              rw [hoff 23 (by kernel_rfl)] at hc
              replace hc : w'.cell? ⟨wo.heap.size, 6, none⟩ = some (.slice X6 G.f6.length y6) := hc
              replace ha := Aside0.mk ha
              replace hX := Aside0.mk hX
              refine value_ (w1 := w') (v := .slice X6 G.f6.length y6) (by rfl) rfl ?_ ?_
              · go_simp
                (try simp only [i64_w])
                try rfl
              refine hK.out _ _ ⟨y10x0_, A10x0_, d10x0_, u10x0_, t10x0_, y10x1_, A10x1_, d10x1_, u10x1_, t10x1_, y10x2_, A10x2_, d10x2_, u10x2_, t10x2_, y10x3_, A10x3_, d10x3_, u10x3_, t10x3_, (by rw [ha.out]; exact putSel_upk 10 hb_ rfl rfl rfl), hX.out, r10x0_, r10x1_, r10x2_, r10x3_⟩
            refine steps_cons ?_ ?_
            · rintro b a w' ⟨y10x0_, A10x0_, d10x0_, u10x0_, t10x0_, y10x1_, A10x1_, d10x1_, u10x1_, t10x1_, y10x2_, A10x2_, d10x2_, u10x2_, t10x2_, y10x3_, A10x3_, d10x3_, u10x3_, t10x3_, ha, hX, r10x0_, r10x1_, r10x2_, r10x3_⟩ hb_ hon hoff
              refine ⟨_, rfl, fun K hK => ?_⟩
              obtain ⟨hu, hy, hg⟩ := r10x3_.e (hon 12 (by kernel_rfl))
              have e1 : a.tmps[64]? = some u10x3_ := by rw [ha]; exact putSel_on (e := (12, 64, u10x3_)) 9 rfl rfl (hon 12 (by kernel_rfl)) rfl
              rw [hu] at e1
              have e2 : a.tmps[66]? = some (.slice X6 G.f6.length y6) := by rw [ha]; exact putSel_on (e := (14, 66, .slice X6 G.f6.length y6)) 10 rfl rfl (hon 14 (by kernel_rfl)) rfl
              have hs : b 23 = false := hoff 23 (by kernel_rfl)
              have hlt : wo.heap.size < w'.heap.size := blk_lt hX.box
              replace ha := Aside0.mk ha
              refine copy_step (by rfl) (.tmp 64) (.tmp 66) 26 46 .i8 1 rfl Try.underlying26 info46 (by decide) y10x3_ G.f6 X6 G.f6.length y6 (eval_of e1) (eval_of e2) hy (Kd.C_below HX6.out (below_step HBo.out.bl hX.bl)) (by have := HLN.out; omega) (base := wo.heap.size + 1) hg ?_
              intro vN w1 hR hb
              obtain ⟨AN, dN, hvN⟩ := Kd.R_slice hR
              subst hvN
              refine hK.out _ _ ⟨y10x0_, A10x0_, d10x0_, u10x0_, t10x0_, y10x1_, A10x1_, d10x1_, u10x1_, t10x1_, y10x2_, A10x2_, d10x2_, u10x2_, t10x2_, y10x3_, AN, dN, u10x3_, .slice AN G.f6.length dN, (by rw [ha.out]; exact putSel_upk 11 hb_ rfl rfl rfl), (by have h := hX.below hb; rw [hs] at h; show OwX wo w9z #[.slice A9x0_ G.f0.length d9x0_, .slice A9x1_ G.f1.length d9x1_, .slice A9x2_ G.f2.length d9x2_, clx (b 17) A10x0_ G.f3.length d10x0_ (.slice X3 G.f3.length y3), clx (b 19) A10x1_ G.f4.length d10x1_ (.slice X4 G.f4.length y4), clx (b 21) A10x2_ G.f5.length d10x2_ (.slice X5 G.f5.length y5), clx (b 23) AN G.f6.length dN (.slice X6 G.f6.length y6), .slice X7 G.f7.length y7, .slice X8 G.f8.length y8] w1; rw [hs]; exact h), r10x0_.below hb, r10x1_.below hb, r10x2_.below hb, ⟨(r10x3_.below hb).e, fun _ => ⟨rfl, Kd.R_mono hR (fun z hz => by rcases hz with h | h <;> omega)⟩⟩⟩
            refine steps_cons ?_ ?_
            · rintro b a w' ⟨y10x0_, A10x0_, d10x0_, u10x0_, t10x0_, y10x1_, A10x1_, d10x1_, u10x1_, t10x1_, y10x2_, A10x2_, d10x2_, u10x2_, t10x2_, y10x3_, A10x3_, d10x3_, u10x3_, t10x3_, ha, hX, r10x0_, r10x1_, r10x2_, r10x3_⟩ hb_ hon hoff
              refine ⟨_, rfl, fun K hK => ?_⟩
              have e1 : a.tmps[5]? = some (.pointer (some ⟨wo.heap.size, 0, none⟩)) := by rw [ha]; exact (putSel_off rfl).trans rfl
              replace ha := Aside0.mk ha
              replace hX := Aside0.mk hX
              refine value_ (w1 := w') (v := .pointer (some ⟨wo.heap.size, 3, none⟩)) (by rfl) rfl ?_ ?_
              · go_simp
                try rfl
              refine hK.out _ _ ⟨y10x0_, A10x0_, d10x0_, u10x0_, t10x0_, y10x1_, A10x1_, d10x1_, u10x1_, t10x1_, y10x2_, A10x2_, d10x2_, u10x2_, t10x2_, y10x3_, A10x3_, d10x3_, u10x3_, t10x3_, (by rw [ha.out]; exact putSel_upk 12 hb_ rfl rfl rfl), hX.out, r10x0_, r10x1_, r10x2_, r10x3_⟩
            refine steps_cons ?_ ?_
            · rintro b a w' ⟨y10x0_, A10x0_, d10x0_, u10x0_, t10x0_, y10x1_, A10x1_, d10x1_, u10x1_, t10x1_, y10x2_, A10x2_, d10x2_, u10x2_, t10x2_, y10x3_, A10x3_, d10x3_, u10x3_, t10x3_, ha, hX, r10x0_, r10x1_, r10x2_, r10x3_⟩ hb_ hon hoff
              refine ⟨_, rfl, fun K hK => ?_⟩
              obtain ⟨ht, hr⟩ := r10x0_.r (hon 3 (by kernel_rfl))
              have e1 : a.tmps[68]? = some (.pointer (some ⟨wo.heap.size, 3, none⟩)) := by rw [ha]; exact putSel_on (e := (16, 68, .pointer (some ⟨wo.heap.size, 3, none⟩))) 12 rfl rfl (hon 16 (by kernel_rfl)) rfl
              have e2 : a.tmps[55]? = some t10x0_ := by rw [ha]; exact putSel_on (e := (3, 55, t10x0_)) 2 rfl rfl (hon 3 (by kernel_rfl)) rfl
              rw [ht] at e2
              have hc : w'.cell? ⟨wo.heap.size, 3, none⟩ = some (clx (b 17) A10x0_ G.f3.length d10x0_ (.slice X3 G.f3.length y3)) := (blk_cell hX.box 3).trans rfl
              rw [hb_] at hc
              replace hc : w'.cell? ⟨wo.heap.size, 3, none⟩ = some (.slice X3 G.f3.length y3) := hc
              have hf := blk_frozen hX.box 3
              replace ha := Aside0.mk ha
              replace hX := Aside0.mk hX
              refine skip_ (w1 := w'.setCell ⟨wo.heap.size, 3, none⟩ (.slice A10x0_ G.f3.length d10x0_)) (by rfl) rfl ?_ ?_
              · go_simp
                try rfl
              refine hK.out _ _ ⟨y10x0_, A10x0_, d10x0_, u10x0_, t10x0_, y10x1_, A10x1_, d10x1_, u10x1_, t10x1_, y10x2_, A10x2_, d10x2_, u10x2_, t10x2_, y10x3_, A10x3_, d10x3_, u10x3_, t10x3_, (by rw [ha.out]; exact (putSel_same rfl).symm), hX.out.set 3 _, r10x0_.set 3 _, r10x1_.set 3 _, r10x2_.set 3 _, r10x3_.set 3 _⟩
            refine steps_cons ?_ ?_
            · rintro b a w' ⟨y10x0_, A10x0_, d10x0_, u10x0_, t10x0_, y10x1_, A10x1_, d10x1_, u10x1_, t10x1_, y10x2_, A10x2_, d10x2_, u10x2_, t10x2_, y10x3_, A10x3_, d10x3_, u10x3_, t10x3_, ha, hX, r10x0_, r10x1_, r10x2_, r10x3_⟩ hb_ hon hoff
              refine ⟨_, rfl, fun K hK => ?_⟩
              have e1 : a.tmps[5]? = some (.pointer (some ⟨wo.heap.size, 0, none⟩)) := by rw [ha]; exact (putSel_off rfl).trans rfl
              replace ha := Aside0.mk ha
              replace hX := Aside0.mk hX
              refine value_ (w1 := w') (v := .pointer (some ⟨wo.heap.size, 4, none⟩)) (by rfl) rfl ?_ ?_
              · go_simp
                try rfl
              refine hK.out _ _ ⟨y10x0_, A10x0_, d10x0_, u10x0_, t10x0_, y10x1_, A10x1_, d10x1_, u10x1_, t10x1_, y10x2_, A10x2_, d10x2_, u10x2_, t10x2_, y10x3_, A10x3_, d10x3_, u10x3_, t10x3_, (by rw [ha.out]; exact putSel_upk 13 hb_ rfl rfl rfl), hX.out, r10x0_, r10x1_, r10x2_, r10x3_⟩
            refine steps_cons ?_ ?_
            · rintro b a w' ⟨y10x0_, A10x0_, d10x0_, u10x0_, t10x0_, y10x1_, A10x1_, d10x1_, u10x1_, t10x1_, y10x2_, A10x2_, d10x2_, u10x2_, t10x2_, y10x3_, A10x3_, d10x3_, u10x3_, t10x3_, ha, hX, r10x0_, r10x1_, r10x2_, r10x3_⟩ hb_ hon hoff
              refine ⟨_, rfl, fun K hK => ?_⟩
              obtain ⟨ht, hr⟩ := r10x1_.r (hon 7 (by kernel_rfl))
              have e1 : a.tmps[69]? = some (.pointer (some ⟨wo.heap.size, 4, none⟩)) := by rw [ha]; exact putSel_on (e := (18, 69, .pointer (some ⟨wo.heap.size, 4, none⟩))) 13 rfl rfl (hon 18 (by kernel_rfl)) rfl
              have e2 : a.tmps[59]? = some t10x1_ := by rw [ha]; exact putSel_on (e := (7, 59, t10x1_)) 5 rfl rfl (hon 7 (by kernel_rfl)) rfl
              rw [ht] at e2
              have hc : w'.cell? ⟨wo.heap.size, 4, none⟩ = some (clx (b 19) A10x1_ G.f4.length d10x1_ (.slice X4 G.f4.length y4)) := (blk_cell hX.box 4).trans rfl
              rw [hb_] at hc
              replace hc : w'.cell? ⟨wo.heap.size, 4, none⟩ = some (.slice X4 G.f4.length y4) := hc
              have hf := blk_frozen hX.box 4
              replace ha := Aside0.mk ha
              replace hX := Aside0.mk hX
              refine skip_ (w1 := w'.setCell ⟨wo.heap.size, 4, none⟩ (.slice A10x1_ G.f4.length d10x1_)) (by rfl) rfl ?_ ?_
              · go_simp
                try rfl
              refine hK.out _ _ ⟨y10x0_, A10x0_, d10x0_, u10x0_, t10x0_, y10x1_, A10x1_, d10x1_, u10x1_, t10x1_, y10x2_, A10x2_, d10x2_, u10x2_, t10x2_, y10x3_, A10x3_, d10x3_, u10x3_, t10x3_, (by rw [ha.out]; exact (putSel_same rfl).symm), hX.out.set 4 _, r10x0_.set 4 _, r10x1_.set 4 _, r10x2_.set 4 _, r10x3_.set 4 _⟩
            refine steps_cons ?_ ?_
            · rintro b a w' ⟨y10x0_, A10x0_, d10x0_, u10x0_, t10x0_, y10x1_, A10x1_, d10x1_, u10x1_, t10x1_, y10x2_, A10x2_, d10x2_, u10x2_, t10x2_, y10x3_, A10x3_, d10x3_, u10x3_, t10x3_, ha, hX, r10x0_, r10x1_, r10x2_, r10x3_⟩ hb_ hon hoff
              refine ⟨_, rfl, fun K hK => ?_⟩
              have e1 : a.tmps[5]? = some (.pointer (some ⟨wo.heap.size, 0, none⟩)) := by rw [ha]; exact (putSel_off rfl).trans rfl
              replace ha := Aside0.mk ha
              replace hX := Aside0.mk hX
              refine value_ (w1 := w') (v := .pointer (some ⟨wo.heap.size, 5, none⟩)) (by rfl) rfl ?_ ?_
              · go_simp
                try rfl
              refine hK.out _ _ ⟨y10x0_, A10x0_, d10x0_, u10x0_, t10x0_, y10x1_, A10x1_, d10x1_, u10x1_, t10x1_, y10x2_, A10x2_, d10x2_, u10x2_, t10x2_, y10x3_, A10x3_, d10x3_, u10x3_, t10x3_, (by rw [ha.out]; exact putSel_upk 14 hb_ rfl rfl rfl), hX.out, r10x0_, r10x1_, r10x2_, r10x3_⟩
            refine steps_cons ?_ ?_
            · rintro b a w' ⟨y10x0_, A10x0_, d10x0_, u10x0_, t10x0_, y10x1_, A10x1_, d10x1_, u10x1_, t10x1_, y10x2_, A10x2_, d10x2_, u10x2_, t10x2_, y10x3_, A10x3_, d10x3_, u10x3_, t10x3_, ha, hX, r10x0_, r10x1_, r10x2_, r10x3_⟩ hb_ hon hoff
              refine ⟨_, rfl, fun K hK => ?_⟩
              obtain ⟨ht, hr⟩ := r10x2_.r (hon 11 (by kernel_rfl))
              have e1 : a.tmps[70]? = some (.pointer (some ⟨wo.heap.size, 5, none⟩)) := by rw [ha]; exact putSel_on (e := (20, 70, .pointer (some ⟨wo.heap.size, 5, none⟩))) 14 rfl rfl (hon 20 (by kernel_rfl)) rfl
              have e2 : a.tmps[63]? = some t10x2_ := by rw [ha]; exact putSel_on (e := (11, 63, t10x2_)) 8 rfl rfl (hon 11 (by kernel_rfl)) rfl
              rw [ht] at e2
              have hc : w'.cell? ⟨wo.heap.size, 5, none⟩ = some (clx (b 21) A10x2_ G.f5.length d10x2_ (.slice X5 G.f5.length y5)) := (blk_cell hX.box 5).trans rfl
              rw [hb_] at hc
              replace hc : w'.cell? ⟨wo.heap.size, 5, none⟩ = some (.slice X5 G.f5.length y5) := hc
              have hf := blk_frozen hX.box 5
              replace ha := Aside0.mk ha
              replace hX := Aside0.mk hX
              refine skip_ (w1 := w'.setCell ⟨wo.heap.size, 5, none⟩ (.slice A10x2_ G.f5.length d10x2_)) (by rfl) rfl ?_ ?_
              · go_simp
                try rfl
              refine hK.out _ _ ⟨y10x0_, A10x0_, d10x0_, u10x0_, t10x0_, y10x1_, A10x1_, d10x1_, u10x1_, t10x1_, y10x2_, A10x2_, d10x2_, u10x2_, t10x2_, y10x3_, A10x3_, d10x3_, u10x3_, t10x3_, (by rw [ha.out]; exact (putSel_same rfl).symm), hX.out.set 5 _, r10x0_.set 5 _, r10x1_.set 5 _, r10x2_.set 5 _, r10x3_.set 5 _⟩
            refine steps_cons ?_ ?_
            · rintro b a w' ⟨y10x0_, A10x0_, d10x0_, u10x0_, t10x0_, y10x1_, A10x1_, d10x1_, u10x1_, t10x1_, y10x2_, A10x2_, d10x2_, u10x2_, t10x2_, y10x3_, A10x3_, d10x3_, u10x3_, t10x3_, ha, hX, r10x0_, r10x1_, r10x2_, r10x3_⟩ hb_ hon hoff
              refine ⟨_, rfl, fun K hK => ?_⟩
              have e1 : a.tmps[5]? = some (.pointer (some ⟨wo.heap.size, 0, none⟩)) := by rw [ha]; exact (putSel_off rfl).trans rfl
              replace ha := Aside0.mk ha
              replace hX := Aside0.mk hX
              refine value_ (w1 := w') (v := .pointer (some ⟨wo.heap.size, 6, none⟩)) (by rfl) rfl ?_ ?_
              · go_simp
                try rfl
              refine hK.out _ _ ⟨y10x0_, A10x0_, d10x0_, u10x0_, t10x0_, y10x1_, A10x1_, d10x1_, u10x1_, t10x1_, y10x2_, A10x2_, d10x2_, u10x2_, t10x2_, y10x3_, A10x3_, d10x3_, u10x3_, t10x3_, (by rw [ha.out]; exact putSel_upk 15 hb_ rfl rfl rfl), hX.out, r10x0_, r10x1_, r10x2_, r10x3_⟩
            refine steps_cons ?_ ?_
            · rintro b a w' ⟨y10x0_, A10x0_, d10x0_, u10x0_, t10x0_, y10x1_, A10x1_, d10x1_, u10x1_, t10x1_, y10x2_, A10x2_, d10x2_, u10x2_, t10x2_, y10x3_, A10x3_, d10x3_, u10x3_, t10x3_, ha, hX, r10x0_, r10x1_, r10x2_, r10x3_⟩ hb_ hon hoff
              refine ⟨_, rfl, fun K hK => ?_⟩
              obtain ⟨ht, hr⟩ := r10x3_.r (hon 15 (by kernel_rfl))
              have e1 : a.tmps[71]? = some (.pointer (some ⟨wo.heap.size, 6, none⟩)) := by rw [ha]; exact putSel_on (e := (22, 71, .pointer (some ⟨wo.heap.size, 6, none⟩))) 15 rfl rfl (hon 22 (by kernel_rfl)) rfl
              have e2 : a.tmps[67]? = some t10x3_ := by rw [ha]; exact putSel_on (e := (15, 67, t10x3_)) 11 rfl rfl (hon 15 (by kernel_rfl)) rfl
              rw [ht] at e2
              have hc : w'.cell? ⟨wo.heap.size, 6, none⟩ = some (clx (b 23) A10x3_ G.f6.length d10x3_ (.slice X6 G.f6.length y6)) := (blk_cell hX.box 6).trans rfl
              rw [hb_] at hc
              replace hc : w'.cell? ⟨wo.heap.size, 6, none⟩ = some (.slice X6 G.f6.length y6) := hc
              have hf := blk_frozen hX.box 6
              replace ha := Aside0.mk ha
              replace hX := Aside0.mk hX
              refine skip_ (w1 := w'.setCell ⟨wo.heap.size, 6, none⟩ (.slice A10x3_ G.f6.length d10x3_)) (by rfl) rfl ?_ ?_
              · go_simp
                try rfl
              refine hK.out _ _ ⟨y10x0_, A10x0_, d10x0_, u10x0_, t10x0_, y10x1_, A10x1_, d10x1_, u10x1_, t10x1_, y10x2_, A10x2_, d10x2_, u10x2_, t10x2_, y10x3_, A10x3_, d10x3_, u10x3_, t10x3_, (by rw [ha.out]; exact (putSel_same rfl).symm), hX.out.set 6 _, r10x0_.set 6 _, r10x1_.set 6 _, r10x2_.set 6 _, r10x3_.set 6 _⟩
            exact steps_nil
          · rintro b a w10z hall ⟨y10x0_, A10x0_, d10x0_, u10x0_, t10x0_, y10x1_, A10x1_, d10x1_, u10x1_, t10x1_, y10x2_, A10x2_, d10x2_, u10x2_, t10x2_, y10x3_, A10x3_, d10x3_, u10x3_, t10x3_, ha, hX, r10x0_, r10x1_, r10x2_, r10x3_⟩
            clear HX
            have hb0_ := hall 0 (by kernel_rfl)
            have hb2_ := hall 2 (by kernel_rfl)
            have hb3_ := hall 3 (by kernel_rfl)
            have hb4_ := hall 4 (by kernel_rfl)
            have hb6_ := hall 6 (by kernel_rfl)
            have hb7_ := hall 7 (by kernel_rfl)
            have hb8_ := hall 8 (by kernel_rfl)
            have hb10_ := hall 10 (by kernel_rfl)
            have hb11_ := hall 11 (by kernel_rfl)
            have hb12_ := hall 12 (by kernel_rfl)
            have hb14_ := hall 14 (by kernel_rfl)
            have hb15_ := hall 15 (by kernel_rfl)
            have hb16_ := hall 16 (by kernel_rfl)
            have hb17_ := hall 17 (by kernel_rfl)
            have hb18_ := hall 18 (by kernel_rfl)
            have hb19_ := hall 19 (by kernel_rfl)
            have hb20_ := hall 20 (by kernel_rfl)
            have hb21_ := hall 21 (by kernel_rfl)
            have hb22_ := hall 22 (by kernel_rfl)
            have hb23_ := hall 23 (by kernel_rfl)
            subst ha
            obtain ⟨hu0, _, _⟩ := r10x0_.e hb0_
            obtain ⟨ht0, hr0⟩ := r10x0_.r hb3_
            subst hu0
            subst ht0
            obtain ⟨hu1, _, _⟩ := r10x1_.e hb4_
            obtain ⟨ht1, hr1⟩ := r10x1_.r hb7_
            subst hu1
            subst ht1
            obtain ⟨hu2, _, _⟩ := r10x2_.e hb8_
            obtain ⟨ht2, hr2⟩ := r10x2_.r hb11_
            subst hu2
            subst ht2
            obtain ⟨hu3, _, _⟩ := r10x3_.e hb12_
            obtain ⟨ht3, hr3⟩ := r10x3_.r hb15_
            subst hu3
            subst ht3
            simp only [clx, hb17_, hb19_, hb21_, hb23_, if_true] at hX
            simp only [putSel, hb0_, hb2_, hb3_, hb4_, hb6_, hb7_, hb8_, hb10_, hb11_, hb12_, hb14_, hb15_, hb16_, hb17_, hb18_, hb19_, hb20_, hb21_, hb22_, hb23_, if_true, Act.put, List.setIfInBounds_toArray, List.set_cons_zero, List.set_cons_succ]
            have HX := Aside0.mk hX
            have HR3 := Aside0.mk hr0
            have HR4 := Aside0.mk hr1
            have HR5 := Aside0.mk hr2
            have HR6 := Aside0.mk hr3
            clear hX hall hb0_ hb2_ hb3_ hb4_ hb6_ hb7_ hb8_ hb10_ hb11_ hb12_ hb14_ hb15_ hb16_ hb17_ hb18_ hb19_ hb20_ hb21_ hb22_ hb23_ r10x0_ r10x1_ r10x2_ r10x3_ hr0 hr1 hr2 hr3
            go_wp2
            have HRk0 := Aside0.mk (HX.out.kp.row HR0.out)
            have HRk1 := Aside0.mk (HX.out.kp.row HR1.out)
            have HRk2 := Aside0.mk (HX.out.kp.row HR2.out)
            clear HR0 HR1 HR2
            skip
            go_loopg [6, 8] G.f7.length (fun kq v6 v8 wr => ∃ (j : Nat) (A6 : Option Addr) (n6 c6 : Nat), v8 = .int .i64 (j : Int) ∧ v6 = .slice A6 n6 c6 ∧ j + kq = G.f7.length ∧ Aside0 (Below w10z.heap.size w10z wr) ∧ Aside0 (Kd.R (Kd.slice 46 (Kd.int .i8)) 26 wr w10z.heap.size (fun _ => True) (.slice A6 n6 c6) (G.f7.take j)))
            case atStart => exact ⟨0, none, 0, 0, rfl, rfl, by omega, ⟨Below.refl _ _⟩, ⟨Kd.R_nil _ _ _ _ _⟩⟩
            case round =>
              obtain ⟨j, AU, nU, cU, rfl, rfl, hjk, HWU, HUU⟩ := hrel
              generalize wr = wU at *
              have HXU := Aside0.mk (HX.out.below HWU.out)
              have hjl : (G.f7.length : Int) ≤ 9223372036854775807 := by have := HLN.out; omega
              by_cases cj : j < G.f7.length
              · have cb : decide ((j : Int) < (G.f7.length : Int)) = true := decide_eq_true (by omega)
                have cp := eq_true (show 0 ≤ (j : Int) by omega)
                have cq := eq_true (show (j : Int) < (G.f7.length : Int) by omega)
                have HTJ := Aside0.mk (take_L1 cj)
                have HLR := Aside0.mk (HLN.out.2.2.2.2.2.2.2.2.2.1 _ (mem_L1 cj))
                obtain ⟨adq, Uq, uq, e_, hxq, -, hCq⟩ := at_row HX7.out j (by omega)
                cases e_
                generalize G.f7.getD j [] = rq at *
                have HCq := Aside0.mk hCq
                clear hCq
                have HLA := Aside0.mk (below_alloc (Below.refl wU.heap.size wU) (.cells #[] 46))
                have hz : wU.cell? ⟨wo.heap.size, 7, none⟩ = some (.slice (some adq) G.f7.length y7) := (blk_cell HXU.out.box 7).trans rfl
                have hz2 : (wU.alloc (.cells #[] 46)).cell? ⟨wo.heap.size, 7, none⟩ = some (.slice (some adq) G.f7.length y7) := (blk_cell (HXU.out.below HLA.out).box 7).trans rfl
                have hxq2 := ((below_step HBo.out.bl (HXU.out.below HLA.out).bl).cell (World.block_lt_of_cell? w _ hxq)).trans hxq
                clear hxq
                go_wp2_with (first | ((with_reducible refine gate_builtin (b := .append) (xs := #[.tmp 80, .tmp 85]) rfl ?_); at_builtin; refine copy_ev rfl (.tmp 80) (.tmp 85) 26 46 .i8 1 rfl Try.underlying26 info46 (by decide) wU.heap.size rq Uq rq.length uq rfl rfl (blk_new wU _) (Kd.C_below HCq.out (below_step HBo.out.bl (HXU.out.below HLA.out).bl)) (by have := HLR.out; omega) (base := w10z.heap.size) (below_size HWU.out) ?_; intro vq wq hR hb; obtain ⟨Bq, bq, hv⟩ := Kd.R_slice hR; subst hv; have HQ := Aside0.mk hR; have HL := Aside0.mk (below_step HLA.out hb); clear hR hb hz hz2 hxq2) | ((with_reducible refine gate_builtin (b := .append) (xs := #[.tmp 79, .tmp 87]) rfl ?_); at_builtin; refine Kd.R_append (Kd.slice 46 (Kd.int .i8)) (w0 := w10z) w10z.heap.size rfl (.tmp 79) (.tmp 87) 57 26 (.slice none 0 0) 24 rfl Try.underlying57 info26 rfl (by decide) (by decide) (.slice AU nU cU) (G.f7.take j) rq [.slice Bq rq.length bq] (fun _ => True) _ rfl rfl (Kd.M_row HQ.out) (fun k hk => ⟨trivial, fun e => by have h := Kd.R_lt HUU.out k e.symm; rw [World.size_alloc] at hk; rcases hk with hk | hk <;> omega⟩) (fun _ _ => trivial) (Kd.R_below HUU.out HL.out) (below_step HWU.out HL.out) (below_size (below_step HWU.out HL.out)) (by have := HLN.out; rw [List.length_take]; omega) ?_; intro v1 wz hR1 hb1 hg1 hat1; obtain ⟨Bz, bz, hv1⟩ := Kd.R_slice hR1; rw [show (List.take j G.f7 ++ [rq]).length = j + 1 by rw [List.length_append, List.length_take, List.length_singleton]; omega] at hv1; subst hv1; have HR1 := Aside0.mk hR1; have HB1 := Aside0.mk hb1; clear hR1 hb1 hg1 hat1))
                skip
                go_roundg (G.f7.length - j - 1)
                case measure => omega
                case rel => exact ⟨j + 1, Bz, j + 1, bz, by simp, rfl, by omega, ⟨HB1.out⟩, ⟨by rw [HTJ.out]; exact HR1.out⟩⟩
              · have cb : decide ((j : Int) < (G.f7.length : Int)) = false := decide_eq_false (by omega)
                obtain rfl : j = G.f7.length := by omega
                have HVU : Aside0 (Kd.R (Kd.slice 46 (Kd.int .i8)) 26 wU w10z.heap.size (fun _ => True) (.slice AU nU cU) G.f7) := ⟨by have h := HUU.out; rw [List.take_length] at h; exact h⟩
                have hz : wU.cell? ⟨wo.heap.size, 7, none⟩ = some (.slice X7 G.f7.length y7) := (blk_cell HXU.out.box 7).trans rfl
                go_wp2
                clear hz cb
                go_loopg [7, 9] G.f8.length (fun kq v7 v9 wr => ∃ (j : Nat) (A6 : Option Addr) (n6 c6 : Nat), v9 = .int .i64 (j : Int) ∧ v7 = .slice A6 n6 c6 ∧ j + kq = G.f8.length ∧ Aside0 (Below wU.heap.size wU wr) ∧ Aside0 (Kd.R (Kd.slice 46 (Kd.int .i8)) 26 wr wU.heap.size (fun _ => True) (.slice A6 n6 c6) (G.f8.take j)))
                case atStart => exact ⟨0, none, 0, 0, rfl, rfl, by omega, ⟨Below.refl _ _⟩, ⟨Kd.R_nil _ _ _ _ _⟩⟩
                case round =>
                  obtain ⟨j, AD, nD, cD, rfl, rfl, hjk, HWD, HUD⟩ := hrel
                  generalize wr = wD at *
                  have HXD := Aside0.mk (HXU.out.below HWD.out)
                  have hjl : (G.f8.length : Int) ≤ 9223372036854775807 := by have := HLN.out; omega
                  by_cases cj : j < G.f8.length
                  · have cb : decide ((j : Int) < (G.f8.length : Int)) = true := decide_eq_true (by omega)
                    have cp := eq_true (show 0 ≤ (j : Int) by omega)
                    have cq := eq_true (show (j : Int) < (G.f8.length : Int) by omega)
                    have HTJ := Aside0.mk (take_L1 cj)
                    have HLR := Aside0.mk (HLN.out.2.2.2.2.2.2.2.2.2.2 _ (mem_L1 cj))
                    obtain ⟨adq, Uq, uq, e_, hxq, -, hCq⟩ := at_row HX8.out j (by omega)
                    cases e_
                    generalize G.f8.getD j [] = rq at *
                    have HCq := Aside0.mk hCq
                    clear hCq
                    have HLA := Aside0.mk (below_alloc (Below.refl wD.heap.size wD) (.cells #[] 46))
                    have hz : wD.cell? ⟨wo.heap.size, 8, none⟩ = some (.slice (some adq) G.f8.length y8) := (blk_cell HXD.out.box 8).trans rfl
                    have hz2 : (wD.alloc (.cells #[] 46)).cell? ⟨wo.heap.size, 8, none⟩ = some (.slice (some adq) G.f8.length y8) := (blk_cell (HXD.out.below HLA.out).box 8).trans rfl
                    have hxq2 := ((below_step HBo.out.bl (HXD.out.below HLA.out).bl).cell (World.block_lt_of_cell? w _ hxq)).trans hxq
                    clear hxq
                    go_wp2_with (first | ((with_reducible refine gate_builtin (b := .append) (xs := #[.tmp 97, .tmp 102]) rfl ?_); at_builtin; refine copy_ev rfl (.tmp 97) (.tmp 102) 26 46 .i8 1 rfl Try.underlying26 info46 (by decide) wD.heap.size rq Uq rq.length uq rfl rfl (blk_new wD _) (Kd.C_below HCq.out (below_step HBo.out.bl (HXD.out.below HLA.out).bl)) (by have := HLR.out; omega) (base := wU.heap.size) (below_size HWD.out) ?_; intro vq wq hR hb; obtain ⟨Bq, bq, hv⟩ := Kd.R_slice hR; subst hv; have HQ := Aside0.mk hR; have HL := Aside0.mk (below_step HLA.out hb); clear hR hb hz hz2 hxq2) | ((with_reducible refine gate_builtin (b := .append) (xs := #[.tmp 96, .tmp 104]) rfl ?_); at_builtin; refine Kd.R_append (Kd.slice 46 (Kd.int .i8)) (w0 := wU) wU.heap.size rfl (.tmp 96) (.tmp 104) 57 26 (.slice none 0 0) 24 rfl Try.underlying57 info26 rfl (by decide) (by decide) (.slice AD nD cD) (G.f8.take j) rq [.slice Bq rq.length bq] (fun _ => True) _ rfl rfl (Kd.M_row HQ.out) (fun k hk => ⟨trivial, fun e => by have h := Kd.R_lt HUD.out k e.symm; rw [World.size_alloc] at hk; rcases hk with hk | hk <;> omega⟩) (fun _ _ => trivial) (Kd.R_below HUD.out HL.out) (below_step HWD.out HL.out) (below_size (below_step HWD.out HL.out)) (by have := HLN.out; rw [List.length_take]; omega) ?_; intro v1 wz hR1 hb1 hg1 hat1; obtain ⟨Bz, bz, hv1⟩ := Kd.R_slice hR1; rw [show (List.take j G.f8 ++ [rq]).length = j + 1 by rw [List.length_append, List.length_take, List.length_singleton]; omega] at hv1; subst hv1; have HR1 := Aside0.mk hR1; have HB1 := Aside0.mk hb1; clear hR1 hb1 hg1 hat1))
                    skip
                    go_roundg (G.f8.length - j - 1)
                    case measure => omega
                    case rel => exact ⟨j + 1, Bz, j + 1, bz, by simp, rfl, by omega, ⟨HB1.out⟩, ⟨by rw [HTJ.out]; exact HR1.out⟩⟩
                  · have cb : decide ((j : Int) < (G.f8.length : Int)) = false := decide_eq_false (by omega)
                    obtain rfl : j = G.f8.length := by omega
                    have HVD : Aside0 (Kd.R (Kd.slice 46 (Kd.int .i8)) 26 wD wU.heap.size (fun _ => True) (.slice AD nD cD) G.f8) := ⟨by have h := HUD.out; rw [List.take_length] at h; exact h⟩
                    have hz : wD.cell? ⟨wo.heap.size, 8, none⟩ = some (.slice X8 G.f8.length y8) := (blk_cell HXD.out.box 8).trans rfl
                    go_upto_region 20 with fail
                    clear hz cb
                    (try simp only [Act.put, List.setIfInBounds_toArray, List.set_cons_zero, List.set_cons_succ])
                    have hs7 : wD.cell? ⟨wo.heap.size, 7, none⟩ = some (.slice X7 G.f7.length y7) := (blk_cell HXD.out.box 7).trans rfl
                    have hs8 : wD.cell? ⟨wo.heap.size, 8, none⟩ = some (.slice X8 G.f8.length y8) := (blk_cell HXD.out.box 8).trans rfl
                    have hf7 := blk_frozen HXD.out.box 7
                    have hf8 := blk_frozen HXD.out.box 8
                    go_upto_region 21 with fail
                    (try simp only [Act.put, List.setIfInBounds_toArray, List.set_cons_zero, List.set_cons_succ])
                    skip
                    clear hs7 hs8 hf7 hf8
                    have HXS := Aside0.mk ((HXD.out.set 7 (.slice AU nU cU)).set 8 (.slice AD nD cD))
                    have HG5 : Aside0 (wo.heap.size + 1 ≤ w10z.heap.size) := ⟨blk_lt HX.out.box⟩
                    have HG6 : Aside0 (w10z.heap.size ≤ wU.heap.size) := ⟨below_size HWU.out⟩
                    have HG7 : Aside0 (w3.heap.size ≤ wo.heap.size) := ⟨below_size HWL.out⟩
                    have HK0 : Aside0 (Kd.R (Kd.int .i8) 46 ((wD.setCell ⟨wo.heap.size, 7, none⟩ (.slice AU nU cU)).setCell ⟨wo.heap.size, 8, none⟩ (.slice AD nD cD)) w3.heap.size (fun z => wo.heap.size < z) (.slice A9x0_ G.f0.length d9x0_) G.f0) := ⟨own_far2 (Kd.R_below (Kd.R_below HRk0.out HWU.out) HWD.out) 7 _ 8 _ (by have := HG7.out; omega)⟩
                    have HK1 : Aside0 (Kd.R (Kd.int .i8) 46 ((wD.setCell ⟨wo.heap.size, 7, none⟩ (.slice AU nU cU)).setCell ⟨wo.heap.size, 8, none⟩ (.slice AD nD cD)) w3.heap.size (fun z => wo.heap.size < z) (.slice A9x1_ G.f1.length d9x1_) G.f1) := ⟨own_far2 (Kd.R_below (Kd.R_below HRk1.out HWU.out) HWD.out) 7 _ 8 _ (by have := HG7.out; omega)⟩
                    have HK2 : Aside0 (Kd.R (Kd.int .i8) 46 ((wD.setCell ⟨wo.heap.size, 7, none⟩ (.slice AU nU cU)).setCell ⟨wo.heap.size, 8, none⟩ (.slice AD nD cD)) w3.heap.size (fun z => wo.heap.size < z) (.slice A9x2_ G.f2.length d9x2_) G.f2) := ⟨own_far2 (Kd.R_below (Kd.R_below HRk2.out HWU.out) HWD.out) 7 _ 8 _ (by have := HG7.out; omega)⟩
                    have HK3 : Aside0 (Kd.R (Kd.int .i8) 46 ((wD.setCell ⟨wo.heap.size, 7, none⟩ (.slice AU nU cU)).setCell ⟨wo.heap.size, 8, none⟩ (.slice AD nD cD)) w3.heap.size (fun z => wo.heap.size < z) (.slice A10x0_ G.f3.length d10x0_) G.f3) := ⟨own_far2 (Kd.R_below (Kd.R_below HR3.out HWU.out) HWD.out) 7 _ 8 _ (by have := HG7.out; omega)⟩
                    have HK4 : Aside0 (Kd.R (Kd.int .i8) 46 ((wD.setCell ⟨wo.heap.size, 7, none⟩ (.slice AU nU cU)).setCell ⟨wo.heap.size, 8, none⟩ (.slice AD nD cD)) w3.heap.size (fun z => wo.heap.size < z) (.slice A10x1_ G.f4.length d10x1_) G.f4) := ⟨own_far2 (Kd.R_below (Kd.R_below HR4.out HWU.out) HWD.out) 7 _ 8 _ (by have := HG7.out; omega)⟩
                    have HK5 : Aside0 (Kd.R (Kd.int .i8) 46 ((wD.setCell ⟨wo.heap.size, 7, none⟩ (.slice AU nU cU)).setCell ⟨wo.heap.size, 8, none⟩ (.slice AD nD cD)) w3.heap.size (fun z => wo.heap.size < z) (.slice A10x2_ G.f5.length d10x2_) G.f5) := ⟨own_far2 (Kd.R_below (Kd.R_below HR5.out HWU.out) HWD.out) 7 _ 8 _ (by have := HG7.out; omega)⟩
                    have HK6 : Aside0 (Kd.R (Kd.int .i8) 46 ((wD.setCell ⟨wo.heap.size, 7, none⟩ (.slice AU nU cU)).setCell ⟨wo.heap.size, 8, none⟩ (.slice AD nD cD)) w3.heap.size (fun z => wo.heap.size < z) (.slice A10x3_ G.f6.length d10x3_) G.f6) := ⟨own_far2 (Kd.R_below (Kd.R_below HR6.out HWU.out) HWD.out) 7 _ 8 _ (by have := HG7.out; omega)⟩
                    have HK7 : Aside0 (Kd.R (Kd.slice 46 (Kd.int .i8)) 26 ((wD.setCell ⟨wo.heap.size, 7, none⟩ (.slice AU nU cU)).setCell ⟨wo.heap.size, 8, none⟩ (.slice AD nD cD)) w3.heap.size (fun z => wo.heap.size < z) (.slice AU nU cU) G.f7) := ⟨own_far2 (Kd.R_below (own_gt HVU.out HG5.out) HWD.out) 7 _ 8 _ (by have := HG7.out; have := HG5.out; omega)⟩
                    have HK8 : Aside0 (Kd.R (Kd.slice 46 (Kd.int .i8)) 26 ((wD.setCell ⟨wo.heap.size, 7, none⟩ (.slice AU nU cU)).setCell ⟨wo.heap.size, 8, none⟩ (.slice AD nD cD)) w3.heap.size (fun z => wo.heap.size < z) (.slice AD nD cD) G.f8) := ⟨own_far2 (own_gt HVD.out (by have := HG5.out; have := HG6.out; omega)) 7 _ 8 _ (by have := HG7.out; have := HG5.out; have := HG6.out; omega)⟩
                    clear HR3 HR4 HR5 HR6 HRk0 HRk1 HRk2 HVU HVD HXU HXD HWU HWD HUU HUD HX
                    generalize World.setCell (World.setCell _ _ _) _ _ = wS at *
                    have hc0 : wS.cell? ⟨wo.heap.size, 0, none⟩ = some (.slice A9x0_ G.f0.length d9x0_) := (blk_cell HXS.out.box 0).trans rfl
                    have hc1 : wS.cell? ⟨wo.heap.size, 1, none⟩ = some (.slice A9x1_ G.f1.length d9x1_) := (blk_cell HXS.out.box 1).trans rfl
                    have hc2 : wS.cell? ⟨wo.heap.size, 2, none⟩ = some (.slice A9x2_ G.f2.length d9x2_) := (blk_cell HXS.out.box 2).trans rfl
                    have hc3 : wS.cell? ⟨wo.heap.size, 3, none⟩ = some (.slice A10x0_ G.f3.length d10x0_) := (blk_cell HXS.out.box 3).trans rfl
                    have hc4 : wS.cell? ⟨wo.heap.size, 4, none⟩ = some (.slice A10x1_ G.f4.length d10x1_) := (blk_cell HXS.out.box 4).trans rfl
                    have hc5 : wS.cell? ⟨wo.heap.size, 5, none⟩ = some (.slice A10x2_ G.f5.length d10x2_) := (blk_cell HXS.out.box 5).trans rfl
                    have hc6 : wS.cell? ⟨wo.heap.size, 6, none⟩ = some (.slice A10x3_ G.f6.length d10x3_) := (blk_cell HXS.out.box 6).trans rfl
                    have hc7 : wS.cell? ⟨wo.heap.size, 7, none⟩ = some (.slice AU nU cU) := (blk_cell HXS.out.box 7).trans rfl
                    have hc8 : wS.cell? ⟨wo.heap.size, 8, none⟩ = some (.slice AD nD cD) := (blk_cell HXS.out.box 8).trans rfl
                    go_wp2_with (first | ((with_reducible refine gate_builtin (b := .append) (xs := #[.tmp 110, .tmp 112]) rfl ?_); at_builtin; refine Kd.R_append k59 (w0 := w3) w3.heap.size rfl (.tmp 110) (.tmp 112) 27 59 (.agg #[.slice none 0 0, .slice none 0 0, .slice none 0 0, .slice none 0 0, .slice none 0 0, .slice none 0 0, .slice none 0 0, .slice none 0 0, .slice none 0 0]) 216 rfl Try.underlying27 info59 rfl (by decide) (by decide) (.slice A3 n3 c3) (l0_9.take i) G [.slice A9x0_ G.f0.length d9x0_, .slice A9x1_ G.f1.length d9x1_, .slice A9x2_ G.f2.length d9x2_, .slice A10x0_ G.f3.length d10x0_, .slice A10x1_ G.f4.length d10x1_, .slice A10x2_ G.f5.length d10x2_, .slice A10x3_ G.f6.length d10x3_, .slice AU nU cU, .slice AD nD cD] (fun _ => True) _ rfl rfl (k59_mkM _ _ _ _ HK0.out HK1.out HK2.out HK3.out HK4.out HK5.out HK6.out HK7.out HK8.out) (fun k hk => ⟨trivial, fun e => by have h := Kd.R_lt HS.out k e.symm; omega⟩) (fun _ _ => trivial) (Kd.R_below HS.out HXS.out.bl) (below_step HWL.out HXS.out.bl) (below_size (below_step HWL.out HXS.out.bl)) (by have := HOK.out.1; rw [List.length_take]; omega) ?_; intro v1 wz hR1 hb1 hg1 hat1; obtain ⟨Bz, bz, hv1⟩ := Kd.R_slice hR1; rw [show (List.take i l0_9 ++ [G]).length = i + 1 by rw [List.length_append, List.length_take, List.length_singleton]; omega] at hv1; subst hv1; have HR1 := Aside0.mk hR1; have HB1 := Aside0.mk hb1; clear hR1 hb1 hg1 hat1))
                    go_roundg (l0_9.length - i - 1)
                    case measure => omega
                    case rel => exact ⟨i + 1, Bz, i + 1, bz, by simp, rfl, by omega, ⟨HB1.out⟩, ⟨by rw [HTK.out]; exact HR1.out⟩⟩


      · have cb : decide ((i : Int) < (l0_9.length : Int)) = false := decide_eq_false (by omega)
        obtain rfl : i = l0_9.length := by omega
        have HSL : Aside0 (Kd.R k59 59 wo w3.heap.size (fun _ => True) (.slice A3 n3 c3) l0_9) := ⟨by have h := HS.out; rw [List.take_length] at h; exact h⟩
        have fa9 := blk_frozen HBo.out.b1 9
        go_upto_region 23 with fail
        (try simp only [Act.put, List.setIfInBounds_toArray, List.set_cons_zero, List.set_cons_succ])
        have HBF := Aside0.mk (HBo.out.set1 (by omega) (Nat.le_refl _) 9 (.slice A3 n3 c3))
        have HP1' := HP1.out
        have HP2' := HP2.out
        have HP3' := HP3.out
        have HP0' := HP0.out
        have HE := HS3.out
        have HF8 := Aside0.mk (Kd.R_far (p := ⟨w.heap.size, 9, none⟩) (Kd.R_below H8.out HWL.out) (fun k hk => by show k ≠ w.heap.size; omega) (.slice A3 n3 c3))
        have HF10 := Aside0.mk (Kd.R_far (p := ⟨w.heap.size, 9, none⟩) (Kd.R_below H10.out HWL.out) (fun k hk => by show k ≠ w.heap.size; omega) (.slice A3 n3 c3))
        have HF11 := Aside0.mk (Kd.R_far (p := ⟨w.heap.size, 9, none⟩) (Kd.R_below H11.out HWL.out) (fun k hk => by show k ≠ w.heap.size; omega) (.slice A3 n3 c3))
        have HF9 := Aside0.mk (Kd.R_far (p := ⟨w.heap.size, 9, none⟩) (Kd.R_mono (Kd.R_bound HSL.out) (ok' := fun k => p3 ≤ k) (fun k hk => by have := hk.2.1; omega)) (fun k hk => by show k ≠ w.heap.size; omega) (.slice A3 n3 c3))
        clear fa9 ha2 cb HB HBo HS HSL HW3 HWL HP1' HP2' HP3' HP0' HE H8 H10 H11
        generalize World.setCell _ _ _ = wF at *
        have hc0 : wF.cell? ⟨w.heap.size, 0, none⟩ = some (.int .i64 a0_0) := (blk_cell HBF.out.b1 0).trans rfl
        have hc1 : wF.cell? ⟨w.heap.size, 1, none⟩ = some (.int .i64 a0_1) := (blk_cell HBF.out.b1 1).trans rfl
        have hc2 : wF.cell? ⟨w.heap.size, 2, none⟩ = some (.int .i64 a0_2) := (blk_cell HBF.out.b1 2).trans rfl
        have hc3 : wF.cell? ⟨w.heap.size, 3, none⟩ = some (.int .i64 a0_3) := (blk_cell HBF.out.b1 3).trans rfl
        have hc4 : wF.cell? ⟨w.heap.size, 4, none⟩ = some (.int .i64 a0_4) := (blk_cell HBF.out.b1 4).trans rfl
        have hc5 : wF.cell? ⟨w.heap.size, 5, none⟩ = some (.int .i64 a0_5) := (blk_cell HBF.out.b1 5).trans rfl
        have hc6 : wF.cell? ⟨w.heap.size, 6, none⟩ = some (.int .i64 a0_6) := (blk_cell HBF.out.b1 6).trans rfl
        have hc7 : wF.cell? ⟨w.heap.size, 7, none⟩ = some (.int .i64 a0_7) := (blk_cell HBF.out.b1 7).trans rfl
        have hc8 : wF.cell? ⟨w.heap.size, 8, none⟩ = some (.slice B8 l0_8.length b8) := (blk_cell HBF.out.b1 8).trans rfl
        have hc9 : wF.cell? ⟨w.heap.size, 9, none⟩ = some (.slice A3 n3 c3) := (blk_cell HBF.out.b1 9).trans rfl
        have hc10 : wF.cell? ⟨w.heap.size, 10, none⟩ = some (.slice B10 l0_10.length b10) := (blk_cell HBF.out.b1 10).trans rfl
        have hc11 : wF.cell? ⟨w.heap.size, 11, none⟩ = some (.slice B11 l0_11.length b11) := (blk_cell HBF.out.b1 11).trans rfl
        obtain ⟨hst, hs2, hs3, hs4⟩ := store_blk (P := Try.prog) (t := 29) [.int .i64 a0_0, .int .i64 a0_1, .int .i64 a0_2, .int .i64 a0_3, .int .i64 a0_4, .int .i64 a0_5, .int .i64 a0_6, .int .i64 a0_7, .slice B8 l0_8.length b8, .slice A3 n3 c3, .slice B10 l0_10.length b10, .slice B11 l0_11.length b11] HBF.out.b2 (by kernel_rfl) rfl (by simp [Value.oneCell'])
        have HST := Aside0.mk hst
        have HS2 := Aside0.mk hs2
        have HSF := Aside0.mk hs3
        clear hst hs2 hs3 hs4
        go_wp2_with (first | ((with_reducible refine gate_store (t := 29) (p := 2) rfl ?_); refine store_event (t := 29) (p := 2) (v := .tmp 116) (w1 := (wF.setCells (w.heap.size + 1) 0 [.int .i64 a0_0, .int .i64 a0_1, .int .i64 a0_2, .int .i64 a0_3, .int .i64 a0_4, .int .i64 a0_5, .int .i64 a0_6, .int .i64 a0_7, .slice B8 l0_8.length b8, .slice A3 n3 c3, .slice B10 l0_10.length b10, .slice B11 l0_11.length b11])) rfl rfl rfl ?hr ?_; (case hr => simp [execOp, Act.eval, Array.getD_eq_getD_getElem?, HST.out]); intro wG hwG; have HWG := Aside0.mk hwG; clear hwG))
        skip
        clear hc0 hc1 hc2 hc3 hc4 hc5 hc6 hc7 hc8 hc9 hc10 hc11
        have HBG : Aside0 (Below w.heap.size w wG) := ⟨by rw [HWG.out]; exact below_setCells2_ (Nat.le_succ _) [.int .i64 a0_0, .int .i64 a0_1, .int .i64 a0_2, .int .i64 a0_3, .int .i64 a0_4, .int .i64 a0_5, .int .i64 a0_6, .int .i64 a0_7, .slice B8 l0_8.length b8, .slice A3 n3 c3, .slice B10 l0_10.length b10, .slice B11 l0_11.length b11] 0 HBF.out.bl⟩
        have hG2 : wG.heap[w.heap.size + 1]? = some (.cells #[.int .i64 a0_0, .int .i64 a0_1, .int .i64 a0_2, .int .i64 a0_3, .int .i64 a0_4, .int .i64 a0_5, .int .i64 a0_6, .int .i64 a0_7, .slice B8 l0_8.length b8, .slice A3 n3 c3, .slice B10 l0_10.length b10, .slice B11 l0_11.length b11] 29 (0, 0)) := by rw [HWG.out]; exact HS2.out
        have hGF : ∀ k, k ≠ w.heap.size + 1 → wG.heap[k]? = wF.heap[k]? := by rw [HWG.out]; exact HSF.out
        have hp0 := HP0.out
        have hp1 := HP1.out
        have hp2 := HP2.out
        have hp3 := HP3.out
        have hR8 := Kd.R_move HF8.out (fun k hk => hGF k (by omega))
        have hR10 := Kd.R_move HF10.out (fun k hk => hGF k (by omega))
        have hR11 := Kd.R_move HF11.out (fun k hk => hGF k (by omega))
        have hR9 := Kd.R_move HF9.out (fun k hk => hGF k (by omega))
        have hle : w.heap.size ≤ w3.heap.size := by have := HS3.out; omega
        have hz0 : wG.cell? ⟨w.heap.size + 1, 0, none⟩ = some (.int .i64 a0_0) := (blk_cell hG2 0).trans rfl
        have hz1 : wG.cell? ⟨w.heap.size + 1, 1, none⟩ = some (.int .i64 a0_1) := (blk_cell hG2 1).trans rfl
        have hz2 : wG.cell? ⟨w.heap.size + 1, 2, none⟩ = some (.int .i64 a0_2) := (blk_cell hG2 2).trans rfl
        have hz3 : wG.cell? ⟨w.heap.size + 1, 3, none⟩ = some (.int .i64 a0_3) := (blk_cell hG2 3).trans rfl
        have hz4 : wG.cell? ⟨w.heap.size + 1, 4, none⟩ = some (.int .i64 a0_4) := (blk_cell hG2 4).trans rfl
        have hz5 : wG.cell? ⟨w.heap.size + 1, 5, none⟩ = some (.int .i64 a0_5) := (blk_cell hG2 5).trans rfl
        have hz6 : wG.cell? ⟨w.heap.size + 1, 6, none⟩ = some (.int .i64 a0_6) := (blk_cell hG2 6).trans rfl
        have hz7 : wG.cell? ⟨w.heap.size + 1, 7, none⟩ = some (.int .i64 a0_7) := (blk_cell hG2 7).trans rfl
        have hz8 : wG.cell? ⟨w.heap.size + 1, 8, none⟩ = some (.slice B8 l0_8.length b8) := (blk_cell hG2 8).trans rfl
        have hz9 : wG.cell? ⟨w.heap.size + 1, 9, none⟩ = some (.slice A3 n3 c3) := (blk_cell hG2 9).trans rfl
        have hz10 : wG.cell? ⟨w.heap.size + 1, 10, none⟩ = some (.slice B10 l0_10.length b10) := (blk_cell hG2 10).trans rfl
        have hz11 : wG.cell? ⟨w.heap.size + 1, 11, none⟩ = some (.slice B11 l0_11.length b11) := (blk_cell hG2 11).trans rfl
        exact bodyPost_ret (v := .agg #[.int .i64 a0_0, .int .i64 a0_1, .int .i64 a0_2, .int .i64 a0_3, .int .i64 a0_4, .int .i64 a0_5, .int .i64 a0_6, .int .i64 a0_7, .slice B8 l0_8.length b8, .slice A3 n3 c3, .slice B10 l0_10.length b10, .slice B11 l0_11.length b11]) (by simp [results, Try.results13, go_sem, hz0, hz1, hz2, hz3, hz4, hz5, hz6, hz7, hz8, hz9, hz10, hz11]) rfl ⟨_, _, _, _, rfl, Kd.R_mono hR8 (fun k hk => ⟨fun e => by have := hR10.1 k e.symm; omega, fun e => by have := hR11.1 k e.symm; omega⟩), Kd.R_lower (Kd.R_mono hR9 (fun k hk => ⟨fun e => by have := hR8.1 k e.symm; omega, fun e => by have := hR10.1 k e.symm; omega, fun e => by have := hR11.1 k e.symm; omega⟩)) hle, Kd.R_mono hR10 (fun k hk => ⟨fun e => by have := hR8.1 k e.symm; omega, fun e => by have := hR11.1 k e.symm; omega⟩), Kd.R_mono hR11 (fun k hk => ⟨fun e => by have := hR8.1 k e.symm; omega, fun e => by have := hR10.1 k e.symm; omega⟩), HBG.out⟩

  · rw [if_neg hcond] at h
    exact absurd h (by simp)

end Go.Proofs.Ytdlinhegmplgiaa.PCkptChecks
