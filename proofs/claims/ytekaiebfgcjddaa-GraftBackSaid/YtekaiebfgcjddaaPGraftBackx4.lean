/- A text of the session: functions of the program and their walks, laid by a program of its own (wip/tools/mkprint.py) over the translation. No condition. -/
import Derived.Test.YtekaiebfgcjddaaPGraftBackx0
import Derived.Test.YtekaiebfgcjddaaPGraftBackx3
namespace Go.Proofs.Ytekaiebfgcjddaa.PGraftBack
open Go.RowKit Go.Proofs.YtekaiebfgcjddaaW.PrintWords Go.Proofs.YtekaiebfgcjddaaW.PrintLast Go.Proofs.YtekaiebfgcjddaaW.PrintMore
attribute [local go_sem] max2_int min2_int max_two min_two max_three min_three max_four min_four   -- for this text's walks alone
set_option linter.unusedVariables false
set_option linter.unusedSimpArgs false

/-! ### graft_Shape: function 10 -/
/-- Two boxes of the call's own, and all else below as it was. -/
structure ShTwo (w : World) (g1 g2 t1 t2 : Nat) (c1 c2 : Array Value) (W : World) : Prop where
  b1 : W.heap[g1]? = some (.cells c1 t1 (0, 0))
  b2 : W.heap[g2]? = some (.cells c2 t2 (0, 0))
  bl : Below w.heap.size w W
theorem ShTwo.below {w W W1 : World} {g1 g2 t1 t2 : Nat} {c1 c2 : Array Value} (h : ShTwo w g1 g2 t1 t2 c1 c2 W) (hb : Below W.heap.size W W1) : ShTwo w g1 g2 t1 t2 c1 c2 W1 := ⟨blk_below h.b1 hb, blk_below h.b2 hb, below_step h.bl hb⟩
theorem ShTwo.drewN {w W : World} {g1 g2 t1 t2 : Nat} {c1 c2 : Array Value} (h : ShTwo w g1 g2 t1 t2 c1 c2 W) (n : Nat) : ShTwo w g1 g2 t1 t2 c1 c2 (W.drewN n) := ⟨blk_drewN h.b1 n, blk_drewN h.b2 n, pw_below_drewN h.bl n⟩
theorem ShTwo.start (w : World) (t1 t2 : Nat) (c1 c2 : Array Value) : ShTwo w w.heap.size (w.heap.size + 1) t1 t2 c1 c2 ((w.alloc (.cells c1 t1)).alloc (.cells c2 t2)) := by
  refine ⟨blk_alloc (blk_new w _) _, ?_, below_alloc (below_alloc (Below.refl _ _) _) _⟩
  have h := blk_new (w.alloc (.cells c1 t1)) (.cells c2 t2)
  simp only [World.size_alloc] at h
  exact h
set_option maxHeartbeats 8000000 in
set_option maxRecDepth 100000 in
theorem graft_lists.callsS (p : Addr) (w : World) :
    Calls Try.prog 29 #[.pointer (some p)] w fun e w' => e = .returned (.agg #[.pointer (some p), .pointer (some ⟨p.block, p.off + 1, none⟩), .pointer (some ⟨p.block, p.off + 2, none⟩), .pointer (some ⟨p.block, p.off + 3, none⟩)]) ∧ Below w.heap.size w w' := by
  have hu59 := Try.underlying59
  go_enter Try.func29, Try.ntmps29
  go_wp2
  have hb := below_alloc (Below.refl w.heap.size w) (.cells #[.pointer none, .pointer none, .pointer none, .pointer none] 55)
  have hbox := blk_new w (.cells #[.pointer none, .pointer none, .pointer none, .pointer none] 55)
  generalize w.alloc (.cells #[.pointer none, .pointer none, .pointer none, .pointer none] 55) = w1 at hb hbox ⊢
  obtain ⟨gb, hg⟩ : ∃ g, g = w.heap.size := ⟨_, rfl⟩
  rw [← hg] at hbox
  have HG := Aside0.mk hg
  simp only [← HG.out]
  clear hg
  go_still_tail 13, (by kernel_rfl)
  change wpList _ _ _ _ _ w1.drew
  have hb2 : Below w.heap.size w w1.drew := below_drew1 hb
  have hbox2 : w1.drew.heap[gb]? = some (.cells #[.pointer none, .pointer none, .pointer none, .pointer none] 55 (0, 0)) := hbox
  clear hb hbox
  generalize w1.drew = w2 at hb2 hbox2 ⊢
  have HB := Aside0.mk hb2
  have BK := Aside0.mk hbox2
  clear hb2 hbox2
  have hx0 := (blk_cell BK.out 0).trans rfl
  have hx1 := (blk_cell BK.out 1).trans rfl
  have hx2 := (blk_cell BK.out 2).trans rfl
  have hx3 := (blk_cell BK.out 3).trans rfl
  have hf0 := blk_frozen BK.out 0
  have hf1 := blk_frozen BK.out 1
  have hf2 := blk_frozen BK.out 2
  have hf3 := blk_frozen BK.out 3
  go_wp2
  have hge : w.heap.size ≤ gb := Nat.le_of_eq HG.out.symm
  have b4 := blk_set (blk_set (blk_set (blk_set BK.out 0 (.pointer (some p))) 1 (.pointer (some ⟨p.block, p.off + 1, none⟩))) 2 (.pointer (some ⟨p.block, p.off + 2, none⟩))) 3 (.pointer (some ⟨p.block, p.off + 3, none⟩))
  exact bodyPost_ret (v := .agg #[.pointer (some p), .pointer (some ⟨p.block, p.off + 1, none⟩), .pointer (some ⟨p.block, p.off + 2, none⟩), .pointer (some ⟨p.block, p.off + 3, none⟩)]) (results_cell_row (fn := Try.f29) rfl _ _ gb 55 _ (0, 0) _ rfl b4 Try.underlying55 rfl (by kernel_rfl)) rfl ⟨rfl, below_set (below_set (below_set (below_set HB.out hge) hge) hge) hge⟩
theorem idx4S_0 (p0 p1 p2 p3 : Option Addr) (W : World) : (Instr.index 55 (.agg #[.pointer p0, .pointer p1, .pointer p2, .pointer p3]) (.int .i64 0)).run Try.prog W = .ok (.pointer p0) W := by kernel_rfl
theorem idx4S_1 (p0 p1 p2 p3 : Option Addr) (W : World) : (Instr.index 55 (.agg #[.pointer p0, .pointer p1, .pointer p2, .pointer p3]) (.int .i64 1)).run Try.prog W = .ok (.pointer p1) W := by kernel_rfl
theorem idx4S_2 (p0 p1 p2 p3 : Option Addr) (W : World) : (Instr.index 55 (.agg #[.pointer p0, .pointer p1, .pointer p2, .pointer p3]) (.int .i64 2)).run Try.prog W = .ok (.pointer p2) W := by kernel_rfl
theorem idx4S_3 (p0 p1 p2 p3 : Option Addr) (W : World) : (Instr.index 55 (.agg #[.pointer p0, .pointer p1, .pointer p2, .pointer p3]) (.int .i64 3)).run Try.prog W = .ok (.pointer p3) W := by kernel_rfl
def cut59 (m : Nat) (l : List Int) (i : Nat) : S59 := ⟨(l.drop (i * 4 * m)).take m, (l.drop ((i * 4 + 1) * m)).take m, (l.drop ((i * 4 + 2) * m)).take m, (l.drop ((i * 4 + 3) * m)).take m⟩
def shape59 (n m : Nat) (l : List Int) : List S59 := (List.range n).map (cut59 m l)
theorem cuts69 {w : World} {A : Option Addr} {len c m : Nat} {L : List Int} (hC : Kd.C (Kd.int .i8) w A len L) (hm : m ≤ len) (hc : len ≤ c) :
    ∃ A' : Option Addr, (∀ W : World, (Instr.slice 24 (.slice A len c) none (some (.int .i64 (m : Int))) none).run Try.prog W = .ok (.slice A m c) W) ∧ (∀ W : World, (Instr.slice 24 (.slice A len c) (some (.int .i64 (m : Int))) none none).run Try.prog W = .ok (.slice A' (len - m) (c - m)) W) ∧ Kd.C (Kd.int .i8) w A m (L.take m) ∧ Kd.C (Kd.int .i8) w A' (len - m) (L.drop m) := by
  obtain ⟨i, hi, _, hs, _⟩ := info_parts info69
  have hl : L.length = len := hC.1
  subst hl
  obtain ⟨h1, h2, _⟩ := print_take_of (P := Try.prog) (Value.int .i8) 0 24 69 .i64 Try.underlying24 hi hs A c L (m : Int) (by omega) (by omega) hc
  obtain ⟨A', h3, h4⟩ := print_cut_of (P := Try.prog) (Value.int .i8) 0 24 69 .i64 Try.underlying24 hi hs A L.length c m hm
  have hl2 : (L.take m).length = m := by rw [List.length_take]; omega
  rw [Int.toNat_natCast, hl2] at h1 h2
  exact ⟨A', h1, h3, Kd.C_of_reads (h1 := fun _ => rfl) (h2 w (Kd.reads_of_C hC)), Kd.C_of_reads (h1 := fun _ => rfl) (h4 w L hc (Kd.reads_of_C hC))⟩
/-- What is laid so far: the first cnt fields of n layers. -/
structure LayI (w : World) (bl n : Nat) (l : List Int) (m cnt : Nat) (W : World) : Prop where
  lay : ∃ (lay : Array Value) (f : Nat → Nat), W.heap[bl]? = some (.cells lay 59 (0, 0)) ∧ lay.size = n * 4 ∧ ∀ j, j < cnt → ∃ v, lay[j]? = some v ∧ Kd.R (Kd.int .i8) 69 W w.heap.size (fun k => f k = j / 4 ∧ k ≠ bl ∧ k ≠ w.heap.size + 1) v ((l.drop (j * m)).take m)
  hbl : w.heap.size + 2 ≤ bl
  hsz : w.heap.size + 2 ≤ W.heap.size
theorem LayI.below {w W W1 : World} {bl n m cnt : Nat} {l : List Int} (h : LayI w bl n l m cnt W) (hb : Below W.heap.size W W1) : LayI w bl n l m cnt W1 := by
  obtain ⟨⟨lay, f, h1, h2, h3⟩, h4, h5⟩ := h
  refine ⟨⟨lay, f, blk_below h1 hb, h2, fun j hj => ?_⟩, h4, Nat.le_trans h5 hb.size⟩
  obtain ⟨v, hv, hr⟩ := h3 j hj
  exact ⟨v, hv, Kd.R_below hr hb⟩
theorem LayI.start {w W : World} {n m : Nat} {l : List Int} {lay : Array Value} (hs : w.heap.size + 2 ≤ W.heap.size) (hl : lay.size = n * 4) : LayI w W.heap.size n l m 0 (W.alloc (.cells lay 59)) :=
  ⟨⟨lay, fun _ => 0, blk_new W _, hl, fun j hj => absurd hj (by omega)⟩, hs, by simp; omega⟩
theorem LayI.res {w W : World} {bl n m cnt : Nat} {l : List Int} (h : LayI w bl n l m cnt W) (o : Nat) (u : Value) : LayI w bl n l m cnt (W.setCell ⟨w.heap.size + 1, o, none⟩ u) := by
  obtain ⟨⟨lay, f, h1, h2, h3⟩, h4, h5⟩ := h
  refine ⟨⟨lay, f, blk_far h1 (by simp; omega) _, h2, fun j hj => ?_⟩, h4, by simpa [World.setCell] using h5⟩
  obtain ⟨v, hv, hr⟩ := h3 j hj
  exact ⟨v, hv, Kd.R_step hr (fun k hk _ => Below.heap_setCell W ⟨w.heap.size + 1, o, none⟩ u k hk.2.2)⟩
theorem LayI.step {w W W3 : World} {bl n m cnt : Nat} {l : List Int} {v : Value} (h : LayI w bl n l m cnt W) (hb : Below W.heap.size W W3) (hc : cnt < n * 4) (hr : Kd.R (Kd.int .i8) 69 W3 w.heap.size (fun k => W.heap.size ≤ k) v ((l.drop (cnt * m)).take m)) : LayI w bl n l m (cnt + 1) (W3.setCell ⟨bl, cnt, none⟩ v) := by
  obtain ⟨⟨lay, f, h1, h2, h3⟩, h4, h5⟩ := h
  refine ⟨⟨lay.setIfInBounds cnt v, fun k => if k < W.heap.size then f k else cnt / 4, blk_set (blk_below h1 hb) cnt v, by simpa using h2, fun j hj => ?_⟩, h4, by have := hb.size; simp [World.setCell]; omega⟩
  by_cases hj2 : j = cnt
  · subst hj2
    refine ⟨v, by rw [Array.getElem?_setIfInBounds_self_of_lt (by omega)], Kd.R_step (Kd.R_mono hr (fun k hk => ?_)) (fun k hk _ => Below.heap_setCell W3 ⟨bl, j, none⟩ v k hk.2.1)⟩
    have := blk_lt h1
    exact ⟨by show (if k < W.heap.size then f k else _) = _; rw [if_neg (by omega)], by omega, by omega⟩
  · obtain ⟨u, hu, hru⟩ := h3 j (by omega)
    refine ⟨u, by rw [Array.getElem?_setIfInBounds_ne (Ne.symm hj2)]; exact hu, Kd.R_step (Kd.R_mono (Kd.R_below (Kd.R_bound hru) hb) (fun k hk => ?_)) (fun k hk _ => Below.heap_setCell W3 ⟨bl, cnt, none⟩ v k hk.2.1)⟩
    obtain ⟨hk1, _, hk2, _⟩ := hk
    exact ⟨by show (if k < W.heap.size then f k else _) = _; rw [if_pos hk2]; exact hk1.1, hk1.2⟩
theorem lit69 {B : Nat} {W : World} (hb : B ≤ W.heap.size) : Kd.R (Kd.int .i8) 69 (W.alloc (.cells #[] 69)) B (fun k => W.heap.size ≤ k) (.slice (some ⟨W.heap.size, 0, none⟩) 0 0) [] := by
  refine ⟨fun k hk => ?_, [], World.ownsRow_lit W #[] 0 hb (by decide) rfl, Reps.none _ _⟩
  have h_ : W.heap.size = k := by simpa [Value.ownBlock] using hk
  omega
theorem four_at {l : List Value} {i : Nat} {a b c d : Value} (h0 : l[i]? = some a) (h1 : l[i + 1]? = some b) (h2 : l[i + 2]? = some c) (h3 : l[i + 3]? = some d) : (l.drop i).take 4 = [a, b, c, d] := by
  apply List.ext_getElem?
  intro j
  rw [List.getElem?_take, List.getElem?_drop]
  rcases j with _ | _ | _ | _ | j
  · simpa using h0
  · simpa using h1
  · simpa using h2
  · simpa using h3
  · rw [if_neg (by omega)]; simp
theorem LayI.done {w W : World} {bl n m : Nat} {l : List Int} (h : LayI w bl n l m (n * 4) W) (hn : n ≤ 1000) : Kd.S k59 59 W w.heap.size (fun _ => True) (.slice (some ⟨bl, 0, none⟩) n n) (shape59 n m l) := by
  obtain ⟨⟨lay, f, h1, h2, h3⟩, h4, h5⟩ := h
  have hlen : (shape59 n m l).zipIdx.length = n := by simp [shape59]
  refine ⟨f, fun _ _ => trivial, lay.toList, ⟨?_, .inr ⟨bl, n, lay, ?_, by omega, h1, by rw [hlen]; exact Nat.le_refl _, by simp only [maxLen]; omega, h2, ?_⟩⟩, ⟨?_, fun j p hp => ?_⟩⟩
  · rw [hlen]; exact h2
  · rw [hlen]
  · rw [hlen]; exact List.take_of_length_le (by rw [Array.length_toList, h2]; exact Nat.le_refl _)
  · rw [hlen]; exact h2
  · have hj : j < n := by have := (List.getElem?_eq_some_iff.1 hp).1; rw [hlen] at this; exact this
    have hp2 : p = (cut59 m l j, j) := by
      rw [List.getElem?_zipIdx] at hp
      simp only [shape59, List.getElem?_map, List.getElem?_range hj, Option.map_some] at hp
      simpa using (Option.some.inj hp).symm
    subst hp2
    obtain ⟨v0, e0, r0⟩ := h3 (j * 4) (by omega)
    obtain ⟨v1, e1, r1⟩ := h3 (j * 4 + 1) (by omega)
    obtain ⟨v2, e2, r2⟩ := h3 (j * 4 + 2) (by omega)
    obtain ⟨v3, e3, r3⟩ := h3 (j * 4 + 3) (by omega)
    have hq : (lay.toList.drop (j * 4)).take 4 = [v0, v1, v2, v3] := four_at (by simpa using e0) (by simpa using e1) (by simpa using e2) (by simpa using e3)
    show k59.M W w.heap.size (fun k => (True ∧ some k ≠ (Value.slice (some ⟨bl, 0, none⟩) n n).ownBlock) ∧ f k = j) (cut59 m l j) ((lay.toList.drop (j * 4)).take 4)
    rw [hq]
    have hk : ∀ q, q < 4 → ∀ k, f k = (j * 4 + q) / 4 ∧ k ≠ bl ∧ k ≠ w.heap.size + 1 → (True ∧ some k ≠ (Value.slice (some ⟨bl, 0, none⟩) n n).ownBlock) ∧ f k = j := by
      rintro q hq k ⟨a, b, _⟩
      exact ⟨⟨trivial, fun e => b (by simpa [Value.ownBlock] using e)⟩, by rw [a]; omega⟩
    exact k59_mkM W _ _ _ (Kd.R_mono r0 (hk 0 (by omega))) (Kd.R_mono r1 (hk 1 (by omega))) (Kd.R_mono r2 (hk 2 (by omega))) (Kd.R_mono r3 (hk 3 (by omega)))
/-- What is known of the world in Shape's loop. -/
structure ShK (w : World) (a0 a1 : Int) (bl n : Nat) (l : List Int) (m cnt : Nat) (W : World) : Prop where
  res : W.heap[w.heap.size + 1]? = some (.cells #[.int .i64 0, .int .i64 0, .slice none 0 0] 27 (0, 0))
  ad : W.heap[bl + 1]? = some (.cells #[.int .i64 a0, .int .i64 a1, .slice (some ⟨bl, 0, none⟩) n n] 27 (0, 0))
  li : LayI w bl n l m cnt W
  b : Below w.heap.size w W
theorem ShK.below {w W W1 : World} {a0 a1 : Int} {bl n m cnt : Nat} {l : List Int} (h : ShK w a0 a1 bl n l m cnt W) (hb : Below W.heap.size W W1) : ShK w a0 a1 bl n l m cnt W1 := ⟨blk_below h.res hb, blk_below h.ad hb, h.li.below hb, below_step h.b hb⟩
theorem ShK.step {w W W3 : World} {a0 a1 : Int} {bl n m cnt : Nat} {l : List Int} {v : Value} (h : ShK w a0 a1 bl n l m cnt W) (hb : Below W.heap.size W W3) (hc : cnt < n * 4) (hr : Kd.R (Kd.int .i8) 69 W3 w.heap.size (fun k => W.heap.size ≤ k) v ((l.drop (cnt * m)).take m)) : ShK w a0 a1 bl n l m (cnt + 1) (W3.setCell ⟨bl, cnt, none⟩ v) := by
  have h4 := h.li.hbl
  exact ⟨blk_far (blk_below h.res hb) (by simp; omega) _, blk_far (blk_below h.ad hb) (by simp) _, h.li.step hb hc hr, below_set (below_step h.b hb) (by omega)⟩
theorem ShK.cell {w W : World} {a0 a1 : Int} {bl n m cnt : Nat} {l : List Int} (h : ShK w a0 a1 bl n l m cnt W) {p : Nat} (hp : p < n * 4) : (∃ u, W.cell? ⟨bl, p, none⟩ = some u) ∧ W.frozen? ⟨bl, p, none⟩ = false := by
  obtain ⟨⟨lay, f, h1, h2, h3⟩, h4, h5⟩ := h.li
  exact ⟨⟨lay[p]'(by omega), by rw [blk_cell h1, Array.getElem?_eq_getElem (by omega)]⟩, blk_frozen h1 p⟩
def graft_Shape.f (k : Nat) (a0 : Int) (a1 : Int) (a2_0 : Int) (a2_1 : Int) (a2_2 : Int) (a2_3 : Int) (a2_4 : Int) (a2_5 : Int) (a2_6 : Int) (a2_7 : Int) (l3 : List Int) : Option (Int × Int × (List (S59)) × Int) := (graft_right.f k a0 a1 a2_0 a2_1 a2_2 a2_3 a2_4 a2_5 a2_6 a2_7).bind fun t => (if t = true then (if (l3.length : Int) = wrap64 (wrap64 (a2_2 * 4) * wrap64 (a0 * a2_0)) then (if (1 ≤ a2_2 ∧ a2_2 ≤ 1000) ∧ (1 ≤ a0 * a2_0 ∧ a0 * a2_0 ≤ 1000) then (some (a0, a1, shape59 a2_2.toNat (a0 * a2_0).toNat l3, 0)) else (none)) else (some (0, 0, [], 21))) else (some (0, 0, [], 20)))
theorem graft_Shape.mono : ∀ a0 a1 a2 a3 a4 a5 a6 a7 a8 a9 a10 k, LeO (graft_Shape.f k a0 a1 a2 a3 a4 a5 a6 a7 a8 a9 a10) (graft_Shape.f (k + 1) a0 a1 a2 a3 a4 a5 a6 a7 a8 a9 a10) := by
  intro a0 a1 a2 a3 a4 a5 a6 a7 a8 a9 a10 k
  unfold graft_Shape.f
  repeat' first
      | (with_reducible exact LeO.refl _)
      | (with_reducible exact LeO.none _)
      | (with_reducible refine LeO.ite ?_ ?_)
      | (with_reducible exact graft_right.mono _ _ _ _ _ _ _ _ _ _ _)
      | (with_reducible refine LeO.bind ?_ (fun _ => ?_))
set_option maxHeartbeats 8000000 in
set_option maxRecDepth 100000 in
theorem graft_Shape.calls (k : Nat) (a0 : Int) (a1 : Int) (a2_0 : Int) (a2_1 : Int) (a2_2 : Int) (a2_3 : Int) (a2_4 : Int) (a2_5 : Int) (a2_6 : Int) (a2_7 : Int) (A3 : Option Addr) (c3 : Nat) (l3 : List Int) (r1 : Int) (r2 : Int) (r3 : List (S59)) (r4 : Int) (w : World) (hr3 : Kd.C (Kd.int .i8) w A3 l3.length l3) (hc3 : l3.length ≤ c3) (h : graft_Shape.f k a0 a1 a2_0 a2_1 a2_2 a2_3 a2_4 a2_5 a2_6 a2_7 l3 = some (r1, r2, r3, r4)) :
    Calls Try.prog 10 #[.int .i64 a0, .int .i64 a1, .agg #[.int .i64 a2_0, .int .i64 a2_1, .int .i64 a2_2, .int .i64 a2_3, .int .i64 a2_4, .int .i64 a2_5, .int .i64 a2_6, .int .i64 a2_7], .slice A3 l3.length c3] w fun e w' => ∃ v2_ : Value, e = .returned (.tuple #[.agg #[.int .i64 r1, .int .i64 r2, v2_], .int .i64 r4]) ∧ Kd.S k59 59 w' w.heap.size (fun _ => True) v2_ r3 ∧ Below w.heap.size w w' := by
  have hu23 := Try.underlying23
  have hu27 := Try.underlying27
  have hu25 := Try.underlying25
  have hu24 := Try.underlying24
  have hu59 := Try.underlying59
  have hu55 := Try.underlying55
  have HR := Aside0.mk hr3
  have HC := Aside0.mk hc3
  clear hr3 hc3
  have HI0 := Aside0.mk (ShTwo.start w 23 27 #[.int .i64 a2_0, .int .i64 a2_1, .int .i64 a2_2, .int .i64 a2_3, .int .i64 a2_4, .int .i64 a2_5, .int .i64 a2_6, .int .i64 a2_7] #[.int .i64 0, .int .i64 0, .slice none 0 0])
  obtain ⟨t, ht, H⟩ := Option.bind_eq_some_iff.mp h
  clear h
  have HT := Aside0.mk ht
  clear ht
  cases t with
  | false =>
    rw [if_neg (by simp)] at H
    simp only [Option.some.injEq, Prod.mk.injEq] at H
    obtain ⟨rfl, rfl, rfl, rfl⟩ := H
    go_enter Try.func10, Try.ntmps10
    go_wp2_with (first | ((with_reducible refine gate_callee (f := 28) rfl ?_); refine goesL_ (some 18) rfl rfl Try.func28 (by kernel_rfl) rfl #[.int .i64 a0, .int .i64 a1, .agg #[.int .i64 a2_0, .int .i64 a2_1, .int .i64 a2_2, .int .i64 a2_3, .int .i64 a2_4, .int .i64 a2_5, .int .i64 a2_6, .int .i64 a2_7]] rfl (by (try simp only [List.map_toArray, List.map_cons, List.map_nil]); first | done | rfl) ?_; (with_reducible refine (graft_right.calls k a0 a1 a2_0 a2_1 a2_2 a2_3 a2_4 a2_5 a2_6 a2_7 false _ HT.out).mono ?_); rintro e w1 ⟨rfl, hb⟩; refine ⟨_, rfl, ?_⟩; have HI := Aside0.mk (HI0.out.below hb); clear hb HI0; have hz0 : w1.cell? ⟨w.heap.size + 1, 0, none⟩ = some (.int .i64 0) := (blk_cell HI.out.b2 0).trans rfl; have hz1 : w1.cell? ⟨w.heap.size + 1, 1, none⟩ = some (.int .i64 0) := (blk_cell HI.out.b2 1).trans rfl; have hz2 : w1.cell? ⟨w.heap.size + 1, 2, none⟩ = some (.slice none 0 0) := (blk_cell HI.out.b2 2).trans rfl; have hc0 : w1.cell? ⟨w.heap.size, 0, none⟩ = some (.int .i64 a2_0) := (blk_cell HI.out.b1 0).trans rfl; have hc2 : w1.cell? ⟨w.heap.size, 2, none⟩ = some (.int .i64 a2_2) := (blk_cell HI.out.b1 2).trans rfl; have fz0 := blk_frozen HI.out.b2 0; have fz1 := blk_frozen HI.out.b2 1; have fz2 := blk_frozen HI.out.b2 2))
    exact bodyPost_ret (v := .tuple #[.agg #[.int .i64 0, .int .i64 0, .slice none 0 0], .int .i64 20]) (by simp [results, Try.results10, go_sem, hz0, hz1, hz2, fz0, fz1, fz2]) rfl ⟨_, rfl, ⟨fun _ => 0, Kd.R_nil _ _ _ _ _⟩, below_set (below_set (below_set HI.out.bl (Nat.le_succ _)) (Nat.le_succ _)) (Nat.le_succ _)⟩
  | true =>
    rw [if_pos rfl] at H
    by_cases cl : (l3.length : Int) = wrap64 (wrap64 (a2_2 * 4) * wrap64 (a0 * a2_0))
    · rw [if_pos cl] at H
      by_cases cn : (1 ≤ a2_2 ∧ a2_2 ≤ 1000) ∧ (1 ≤ a0 * a2_0 ∧ a0 * a2_0 ≤ 1000)
      · rw [if_pos cn] at H
        simp only [Option.some.injEq, Prod.mk.injEq] at H
        obtain ⟨rfl, rfl, rfl, rfl⟩ := H
        obtain ⟨⟨n1, n2⟩, m1, m2⟩ := cn
        obtain ⟨n, rfl⟩ := Int.eq_ofNat_of_zero_le (show 0 ≤ a2_2 by omega)
        obtain ⟨m, hm⟩ := Int.eq_ofNat_of_zero_le (show 0 ≤ a0 * a2_0 by omega)
        have hm1 : 1 ≤ m := by omega
        have hm2 : m ≤ 1000 := by omega
        have hn1 : 1 ≤ n := by omega
        have hn2 : n ≤ 1000 := by omega
        have hw1 : wrap64 (a0 * a2_0) = (m : Int) := by rw [hm]; unfold wrap64; omega
        have hw0 : wrap64 ((n : Int) * 4) = (n : Int) * 4 := by unfold wrap64; omega
        have hnm : n * 4 * m ≤ 4000000 := Nat.le_trans (Nat.mul_le_mul (show n * 4 ≤ 4000 by omega) hm2) (by decide)
        have hw2 : wrap64 ((n : Int) * 4 * (m : Int)) = ((n * 4 * m : Nat) : Int) := by rw [show (n : Int) * 4 * (m : Int) = ((n * 4 * m : Nat) : Int) by simp]; unfold wrap64; omega
        have hll : l3.length = n * 4 * m := by rw [hw1, hw0, hw2] at cl; omega
        clear cl n1 n2 m1 m2 hw0
        rw [hm, Int.toNat_natCast, Int.toNat_natCast]
        have hkw1 : IntKind.i64.wrap (a0 * a2_0) = (m : Int) := by rw [i64_w]; exact hw1
        have hkw2 : IntKind.i64.wrap ((n : Int) * 4 * (m : Int)) = (l3.length : Int) := by rw [hll, i64_w]; exact hw2
        have hkw3 : wrap64 ((n : Int) * 4 * (m : Int)) = (l3.length : Int) := by rw [hll]; exact hw2
        have HM := Aside0.mk hm
        have HLL := Aside0.mk hll
        have HNM := Aside0.mk hnm
        have HM12 := Aside0.mk (And.intro hm1 hm2)
        clear hm hll hnm hw2 hm1 hm2
        have hn1' : (1 : Int) ≤ (n : Int) := by omega
        have hn2' : (n : Int) ≤ 1000 := by omega
        clear hn1 hn2
        go_enter Try.func10, Try.ntmps10
        have hmk : ∀ W : World, (Instr.makeSlice 25 (.int .i64 (n : Int)) (.int .i64 (n : Int))).run Try.prog W = .ok (.slice (some ⟨W.heap.size, 0, none⟩) n n) (W.alloc (.cells (madeCells #[.slice none 0 0, .slice none 0 0, .slice none 0 0, .slice none 0 0] (n * 4)) 59)) := by
          intro W
          obtain ⟨i, hi, hzz⟩ := Option.map_eq_some_iff.1 info59
          simp only [Prod.mk.injEq] at hzz
          obtain ⟨hz, hs, hb⟩ := hzz
          have h := run_make (P := Try.prog) W 25 59 i _ Try.underlying25 hi hz .i64 .i64 (n : Int) (n : Int) (by omega) (Int.le_refl _) (by rw [hb]; omega) (by omega)
          simp only [Int.toNat_natCast, hs] at h
          exact h
        go_wp2_with (first | ((with_reducible refine gate_callee (f := 28) rfl ?_); refine goesL_ (some 18) rfl rfl Try.func28 (by kernel_rfl) rfl #[.int .i64 a0, .int .i64 a1, .agg #[.int .i64 a2_0, .int .i64 a2_1, .int .i64 (n : Int), .int .i64 a2_3, .int .i64 a2_4, .int .i64 a2_5, .int .i64 a2_6, .int .i64 a2_7]] rfl (by (try simp only [List.map_toArray, List.map_cons, List.map_nil]); first | done | rfl) ?_; (with_reducible refine (graft_right.calls k a0 a1 a2_0 a2_1 (n : Int) a2_3 a2_4 a2_5 a2_6 a2_7 true _ HT.out).mono ?_); rintro e w1 ⟨rfl, hb⟩; refine ⟨_, rfl, ?_⟩; have HI := Aside0.mk ((ShTwo.start w 23 27 #[.int .i64 a2_0, .int .i64 a2_1, .int .i64 (n : Int), .int .i64 a2_3, .int .i64 a2_4, .int .i64 a2_5, .int .i64 a2_6, .int .i64 a2_7] #[.int .i64 0, .int .i64 0, .slice none 0 0]).below hb); clear hb; have hz0 : w1.cell? ⟨w.heap.size + 1, 0, none⟩ = some (.int .i64 0) := (blk_cell HI.out.b2 0).trans rfl; have hz1 : w1.cell? ⟨w.heap.size + 1, 1, none⟩ = some (.int .i64 0) := (blk_cell HI.out.b2 1).trans rfl; have hz2 : w1.cell? ⟨w.heap.size + 1, 2, none⟩ = some (.slice none 0 0) := (blk_cell HI.out.b2 2).trans rfl; have hc0 : w1.cell? ⟨w.heap.size, 0, none⟩ = some (.int .i64 a2_0) := (blk_cell HI.out.b1 0).trans rfl; have hc2 : w1.cell? ⟨w.heap.size, 2, none⟩ = some (.int .i64 (n : Int)) := (blk_cell HI.out.b1 2).trans rfl; have fz0 := blk_frozen HI.out.b2 0; have fz1 := blk_frozen HI.out.b2 1; have fz2 := blk_frozen HI.out.b2 2))
        obtain ⟨bl, hbl⟩ : ∃ bl, bl = w1.heap.size := ⟨_, rfl⟩
        have HI3 : Aside0 (ShK w a0 a1 bl n l3 m 0 ((w1.alloc (.cells (madeCells #[.slice none 0 0, .slice none 0 0, .slice none 0 0, .slice none 0 0] (n * 4)) 59)).alloc (.cells #[.int .i64 a0, .int .i64 a1, .slice (some ⟨w1.heap.size, 0, none⟩) n n] 27))) := by
          subst hbl
          have h1 := blk_lt HI.out.b2
          refine ⟨⟨blk_alloc (blk_alloc HI.out.b2 _) _, ?_, (LayI.start (by omega) (by rw [size_madeCells])).below (below_alloc (Below.refl _ _) _), below_alloc (below_alloc HI.out.bl _) _⟩⟩
          have h2 := blk_new (w1.alloc (.cells (madeCells #[.slice none 0 0, .slice none 0 0, .slice none 0 0, .slice none 0 0] (n * 4)) 59)) (.cells #[.int .i64 a0, .int .i64 a1, .slice (some ⟨w1.heap.size, 0, none⟩) n n] 27)
          simp only [World.size_alloc] at h2
          exact h2
        clear HI HI0
        have HI := HI3
        clear HI3
        rw [← hbl] at HI ⊢
        generalize (w1.alloc (.cells (madeCells #[.slice none 0 0, .slice none 0 0, .slice none 0 0, .slice none 0 0] (n * 4)) 59)).alloc (.cells #[.int .i64 a0, .int .i64 a1, .slice (some ⟨bl, 0, none⟩) n n] 27) = w6 at HI ⊢
        clear hz0 hz1 hz2 hc0 hc2 fz0 fz1 fz2
        clear hbl hmk
        go_loopg [3, 43] n (fun kq v3 v43 wr => ∃ (i : Nat) (A : Option Addr) (len c : Nat), v43 = .int .i64 (i : Int) ∧ v3 = .slice A len c ∧ i + kq = n ∧ Aside0 (Kd.C (Kd.int .i8) w A len (l3.drop (i * 4 * m)) ∧ len ≤ c ∧ len = (n * 4 - i * 4) * m) ∧ Aside0 (ShK w a0 a1 bl n l3 m (i * 4) wr))
        case atStart => exact ⟨0, A3, l3.length, c3, rfl, rfl, by omega, ⟨by have h_ := HR.out; simpa using h_, HC.out, by have := HLL.out; simpa using this⟩, ⟨by simpa using HI.out⟩⟩
        case round =>
          obtain ⟨i, A, len, c, rfl, rfl, hik, HV, HI2⟩ := hrel
          clear HI
          have HI := HI2
          clear HI2
          have hA0 : wr.cell? ⟨bl + 1, 0, none⟩ = some (.int .i64 a0) := (blk_cell HI.out.ad 0).trans rfl; have hA1 : wr.cell? ⟨bl + 1, 1, none⟩ = some (.int .i64 a1) := (blk_cell HI.out.ad 1).trans rfl; have hA2 : wr.cell? ⟨bl + 1, 2, none⟩ = some (.slice (some ⟨bl, 0, none⟩) n n) := (blk_cell HI.out.ad 2).trans rfl
          by_cases ci : i < n
          · have cb : decide ((i : Int) < (n : Int)) = true := decide_eq_true (by omega)
            have cp := eq_true (show 0 ≤ (i : Int) by omega)
            have cq := eq_true (show (i : Int) < (n : Int) by omega)
            go_wp2_with (first | ((with_reducible refine gate_callee (f := 29) rfl ?_); refine goesL_ (some 50) rfl rfl Try.func29 (by kernel_rfl) rfl #[.pointer (some ⟨bl, i * 4, none⟩)] rfl (by (try simp only [List.map_toArray, List.map_cons, List.map_nil]); first | done | rfl) ?_; (with_reducible refine (graft_lists.callsS ⟨bl, i * 4, none⟩ _).mono ?_); rintro e w2 ⟨rfl, hb⟩; refine ⟨_, rfl, ?_⟩; have HI2 := Aside0.mk (HI.out.below hb); clear hb HI; have HI := HI2; clear HI2; clear hA0 hA1 hA2; have hA0 : w2.cell? ⟨bl + 1, 0, none⟩ = some (.int .i64 a0) := (blk_cell HI.out.ad 0).trans rfl; have hA1 : w2.cell? ⟨bl + 1, 1, none⟩ = some (.int .i64 a1) := (blk_cell HI.out.ad 1).trans rfl; have hA2 : w2.cell? ⟨bl + 1, 2, none⟩ = some (.slice (some ⟨bl, 0, none⟩) n n) := (blk_cell HI.out.ad 2).trans rfl))
            clear hA0 hA1 hA2
            go_loopg [3, 51] 4 (fun kq v3 v51 wr => ∃ (q : Nat) (A : Option Addr) (len c : Nat), v51 = .int .i64 (q : Int) ∧ v3 = .slice A len c ∧ q + kq = 4 ∧ Aside0 (Kd.C (Kd.int .i8) w A len (l3.drop ((i * 4 + q) * m)) ∧ len ≤ c ∧ len = (n * 4 - (i * 4 + q)) * m) ∧ Aside0 (ShK w a0 a1 bl n l3 m (i * 4 + q) wr))
            case atStart => exact ⟨0, A, len, c, rfl, rfl, by omega, HV, HI⟩
            case round =>
              clear HV
              obtain ⟨q, A, len, c, rfl, rfl, hqk, HV, HI2⟩ := hrel
              clear HI
              have HI := HI2
              clear HI2
              obtain rfl | rfl | rfl | rfl | rfl : q = 0 ∨ q = 1 ∨ q = 2 ∨ q = 3 ∨ q = 4 := by omega
              · obtain ⟨L, hL⟩ : ∃ L, L = l3.drop ((i * 4 + 0) * m) := ⟨_, rfl⟩
                have KL := Aside0.mk hL
                obtain ⟨hV1, hV2, hV3⟩ := HV.out
                have hml : m ≤ len := by rw [hV3]; exact Nat.le_mul_of_pos_left _ (by omega)
                rw [← hL] at hV1
                obtain ⟨A2, hc1, hc2, hc3, hc4⟩ := cuts69 hV1 hml hV2
                have HC1 := Aside0.mk hc3
                have HC2 := Aside0.mk hc4
                have HV12 := Aside0.mk (And.intro hV2 (And.intro hV3 hml))
                clear hc3 hc4 hL hV1 hV2 hV3 hml HV
                have ix_ := idx4S_0 (some ⟨bl, i * 4, none⟩) (some ⟨bl, i * 4 + 1, none⟩) (some ⟨bl, i * 4 + 2, none⟩) (some ⟨bl, i * 4 + 3, none⟩)
                go_wp2
                refine start_ (n := 12) (S := fun w' => True) (ds := []) #[false, false, false, false, false, false, false, false, false, false, false, false] (by kernel_rfl) rfl rfl trivial (fun hHeld => ?_)
                refine pure_ (i := 0) (N := some 54) (v := ?_) (a' := ?_) #[true, false, false, false, false, false, false, false, false, false, false, false] rfl rfl (by kernel_rfl) (fun _ _ _ h => h) (Or.inl ⟨by rfl, ?_⟩) ?_ ?_
                rotate_left
                · intro w'
                  go_simp
                  with_reducible rfl
                rotate_left
                · simp only [Act.put, List.setIfInBounds_toArray, List.set_cons_zero, List.set_cons_succ, i64_w, i32_w]
                  rfl
                refine pure_ (i := 2) (N := some 56) (v := ?_) (a' := ?_) #[true, false, true, false, false, false, false, false, false, false, false, false] rfl rfl (by kernel_rfl) (fun _ _ _ h => h) (Or.inl ⟨by rfl, ?_⟩) ?_ ?_
                rotate_left
                · intro w'
                  go_simp
                  with_reducible rfl
                rotate_left
                · simp only [Act.put, List.setIfInBounds_toArray, List.set_cons_zero, List.set_cons_succ, i64_w, i32_w]
                  rfl
                refine pure_ (i := 3) (N := some 57) (v := ?_) (a' := ?_) #[true, false, true, true, false, false, false, false, false, false, false, false] rfl rfl (by kernel_rfl) (fun _ _ _ h => h) (Or.inl ⟨by rfl, ?_⟩) ?_ ?_
                rotate_left
                · intro w'
                  go_simp
                  with_reducible rfl
                rotate_left
                · simp only [Act.put, List.setIfInBounds_toArray, List.set_cons_zero, List.set_cons_succ, i64_w, i32_w]
                  rfl
                refine pure_ (i := 4) (N := some 58) (v := ?_) (a' := ?_) #[true, false, true, true, true, false, false, false, false, false, false, false] rfl rfl (by kernel_rfl) (fun _ _ _ h => h) (Or.inl ⟨by rfl, ?_⟩) ?_ ?_
                rotate_left
                · intro w'
                  go_simp
                  with_reducible rfl
                rotate_left
                · simp only [Act.put, List.setIfInBounds_toArray, List.set_cons_zero, List.set_cons_succ, i64_w, i32_w]
                  rfl
                refine pure_ (i := 6) (N := some 60) (v := ?_) (a' := ?_) #[true, false, true, true, true, false, true, false, false, false, false, false] rfl rfl (by kernel_rfl) (fun _ _ _ h => h) (Or.inl ⟨by rfl, ?_⟩) ?_ ?_
                rotate_left
                · intro w'
                  go_simp
                  with_reducible rfl
                rotate_left
                · simp only [Act.put, List.setIfInBounds_toArray, List.set_cons_zero, List.set_cons_succ, i64_w, i32_w]
                  rfl
                refine pure_ (i := 7) (N := some 61) (v := ?_) (a' := ?_) #[true, false, true, true, true, false, true, true, false, false, false, false] rfl rfl (by kernel_rfl) (fun _ _ _ h => h) (Or.inl ⟨by rfl, ?_⟩) ?_ ?_
                rotate_left
                · intro w'
                  go_simp
                  with_reducible rfl
                rotate_left
                · simp only [Act.put, List.setIfInBounds_toArray, List.set_cons_zero, List.set_cons_succ, i64_w, i32_w]
                  rfl
                refine pure_ (i := 8) (N := some 62) (v := ?_) (a' := ?_) #[true, false, true, true, true, false, true, true, true, false, false, false] rfl rfl (by kernel_rfl) (fun _ _ _ h => h) (Or.inl ⟨by rfl, ?_⟩) ?_ ?_
                rotate_left
                · intro w'
                  go_simp
                  with_reducible rfl
                rotate_left
                · simp only [Act.put, List.setIfInBounds_toArray, List.set_cons_zero, List.set_cons_succ, i64_w, i32_w]
                  rfl
                refine one_ (i := 1) (N := some 55) #[true, true, true, true, true, false, true, true, true, false, false, false] rfl rfl (by kernel_rfl) (by decide) (fun K hK => ?_)
                refine value_ (v := .slice (some ⟨wr.drew.heap.size, 0, none⟩) 0 0) (w1 := wr.drew.alloc (.cells #[] 69)) (by rfl) rfl (by first | (go_simp; done) | (go_simp; rfl)) ?_
                refine hK.out _ _ trivial (fun _ => ?_)
                clear hK K
                refine norm_ (a' := ?_) ?_ ?_
                rotate_left
                · simp only [Act.put, List.setIfInBounds_toArray, List.set_cons_zero, List.set_cons_succ, i64_w, i32_w]
                  rfl
                have hlit : Kd.R (Kd.int .i8) 69 (wr.drew.alloc (.cells #[] 69)) w.heap.size (fun k => wr.heap.size ≤ k) (.slice (some ⟨wr.drew.heap.size, 0, none⟩) 0 0) [] := lit69 (W := wr.drew) HI.out.b.size
                have hbl : Below wr.heap.size wr (wr.drew.alloc (.cells #[] 69)) := below_alloc (below_drew1 (Below.refl _ _)) _
                generalize wr.drew.alloc (.cells #[] 69) = w4 at hlit hbl ⊢
                generalize wr.drew.heap.size = gl at hlit ⊢
                refine one_ (i := 5) (N := some 59) #[true, true, true, true, true, true, true, true, true, false, false, false] rfl rfl (by kernel_rfl) (by decide) (fun K hK => ?_)
                refine Kd.R_append_rows_step (Kd.int .i8) (w0 := w) w.heap.size (by rfl) (.tmp 55) (.tmp 58) 24 69 (.int .i8 0) 1 rfl Try.underlying24 info69 rfl (by decide) (by omega) (.slice (some ⟨gl, 0, none⟩) 0 0) ([] : List Int) (L.take m) A m c (fun k => wr.heap.size ≤ k) (fun _ => False) rfl rfl hlit (Kd.C_below HC1.out (below_step HI.out.b hbl)) (fun _ _ h => h) (fun _ h => h.elim) (fun k hk => Nat.le_trans hbl.size hk) (below_step HI.out.b hbl) (below_step HI.out.b hbl).size (by have := HM12.out; simp only [List.length_nil]; omega) ?_
                intro v5 w5 ho hb5 hg hat
                have hbw : Below wr.heap.size wr w5 := by
                  refine ⟨hg.os.trans hbl.os, hg.tape.trans hbl.tape, hg.output.trans hbl.output, Nat.le_trans hbl.size hg.size, fun k hk => ?_⟩
                  refine (hg.block k (Nat.lt_of_lt_of_le hk hbl.size) (fun e_ => ?_)).trans (hbl.block k hk)
                  have h1 := hlit.1 k e_.symm
                  omega
                refine hK.out _ _ trivial (fun _ => ?_)
                clear hK K
                refine norm_ (a' := ?_) ?_ ?_
                rotate_left
                · simp only [Act.put, List.setIfInBounds_toArray, List.set_cons_zero, List.set_cons_succ, i64_w, i32_w]
                  rfl
                rw [List.nil_append] at ho
                obtain ⟨A5, c5, hv5⟩ := Kd.R_slice ho
                have hst := (HI.out.step (v := v5) hbw (by omega) (by have h_ := ho; rw [KL.out] at h_; exact h_))
                obtain ⟨⟨u5, hu5⟩, hf5⟩ := (HI.out.below hbw).cell (p := i * 4) (by omega)
                clear ho hg hat hb5 hlit hbl
                subst hv5
                refine pure_ (i := 9) (N := some 63) (v := ?_) (a' := ?_) #[true, true, true, true, true, true, true, true, true, true, false, false] rfl rfl (by kernel_rfl) (fun _ _ _ h => h) (Or.inl ⟨by rfl, ?_⟩) ?_ ?_
                rotate_left
                · intro w'
                  go_simp
                  with_reducible rfl
                rotate_left
                · simp only [Act.put, List.setIfInBounds_toArray, List.set_cons_zero, List.set_cons_succ, i64_w, i32_w]
                  rfl
                refine one_ (i := 10) (N := none) #[true, true, true, true, true, true, true, true, true, true, true, false] rfl rfl (by kernel_rfl) (by decide) (fun K hK => ?_)
                refine skip_ (w1 := w5.setCell ⟨bl, i * 4, none⟩ (.slice A5 (L.take m).length c5)) (by rfl) rfl (by first | (go_simp; done) | (go_simp; rfl)) ?_
                refine hK.out _ _ trivial (fun _ => ?_)
                clear hK K
                refine pure_ (i := 11) (N := some 3) (v := ?_) (a' := ?_) #[true, true, true, true, true, true, true, true, true, true, true, true] rfl rfl (by kernel_rfl) (fun _ _ _ h => h) (Or.inl ⟨by rfl, ?_⟩) ?_ ?_
                rotate_left
                · intro w'
                  go_simp
                  with_reducible rfl
                rotate_left
                · simp only [Act.put, List.setIfInBounds_toArray, List.set_cons_zero, List.set_cons_succ, i64_w, i32_w]
                  rfl
                refine done_ (by kernel_rfl) ?_
                clear hu5 hf5 hbw
                have HI2 := Aside0.mk hst
                clear hst HI
                have HI := HI2
                clear HI2
                go_wp2
                go_roundg 3
                case measure => omega
                case rel =>
                  refine ⟨1, A2, len - m, c - m, rfl, rfl, by omega, ⟨?_⟩, ⟨by have h_ := HI.out; rw [List.length_take] at h_; exact h_⟩⟩
                  obtain ⟨e1, e2, e3⟩ := HV12.out
                  have h_ := HC2.out
                  rw [KL.out, List.drop_drop] at h_
                  refine ⟨by rw [show (i * 4 + 1) * m = (i * 4 + 0) * m + m from Nat.succ_mul _ _]; exact h_, by omega, ?_⟩
                  rw [e2, ← Nat.sub_one_mul, Nat.sub_sub]
              · obtain ⟨L, hL⟩ : ∃ L, L = l3.drop ((i * 4 + 1) * m) := ⟨_, rfl⟩
                have KL := Aside0.mk hL
                obtain ⟨hV1, hV2, hV3⟩ := HV.out
                have hml : m ≤ len := by rw [hV3]; exact Nat.le_mul_of_pos_left _ (by omega)
                rw [← hL] at hV1
                obtain ⟨A2, hc1, hc2, hc3, hc4⟩ := cuts69 hV1 hml hV2
                have HC1 := Aside0.mk hc3
                have HC2 := Aside0.mk hc4
                have HV12 := Aside0.mk (And.intro hV2 (And.intro hV3 hml))
                clear hc3 hc4 hL hV1 hV2 hV3 hml HV
                have ix_ := idx4S_1 (some ⟨bl, i * 4, none⟩) (some ⟨bl, i * 4 + 1, none⟩) (some ⟨bl, i * 4 + 2, none⟩) (some ⟨bl, i * 4 + 3, none⟩)
                go_wp2
                refine start_ (n := 12) (S := fun w' => True) (ds := []) #[false, false, false, false, false, false, false, false, false, false, false, false] (by kernel_rfl) rfl rfl trivial (fun hHeld => ?_)
                refine pure_ (i := 0) (N := some 54) (v := ?_) (a' := ?_) #[true, false, false, false, false, false, false, false, false, false, false, false] rfl rfl (by kernel_rfl) (fun _ _ _ h => h) (Or.inl ⟨by rfl, ?_⟩) ?_ ?_
                rotate_left
                · intro w'
                  go_simp
                  with_reducible rfl
                rotate_left
                · simp only [Act.put, List.setIfInBounds_toArray, List.set_cons_zero, List.set_cons_succ, i64_w, i32_w]
                  rfl
                refine pure_ (i := 2) (N := some 56) (v := ?_) (a' := ?_) #[true, false, true, false, false, false, false, false, false, false, false, false] rfl rfl (by kernel_rfl) (fun _ _ _ h => h) (Or.inl ⟨by rfl, ?_⟩) ?_ ?_
                rotate_left
                · intro w'
                  go_simp
                  with_reducible rfl
                rotate_left
                · simp only [Act.put, List.setIfInBounds_toArray, List.set_cons_zero, List.set_cons_succ, i64_w, i32_w]
                  rfl
                refine pure_ (i := 3) (N := some 57) (v := ?_) (a' := ?_) #[true, false, true, true, false, false, false, false, false, false, false, false] rfl rfl (by kernel_rfl) (fun _ _ _ h => h) (Or.inl ⟨by rfl, ?_⟩) ?_ ?_
                rotate_left
                · intro w'
                  go_simp
                  with_reducible rfl
                rotate_left
                · simp only [Act.put, List.setIfInBounds_toArray, List.set_cons_zero, List.set_cons_succ, i64_w, i32_w]
                  rfl
                refine pure_ (i := 4) (N := some 58) (v := ?_) (a' := ?_) #[true, false, true, true, true, false, false, false, false, false, false, false] rfl rfl (by kernel_rfl) (fun _ _ _ h => h) (Or.inl ⟨by rfl, ?_⟩) ?_ ?_
                rotate_left
                · intro w'
                  go_simp
                  with_reducible rfl
                rotate_left
                · simp only [Act.put, List.setIfInBounds_toArray, List.set_cons_zero, List.set_cons_succ, i64_w, i32_w]
                  rfl
                refine pure_ (i := 6) (N := some 60) (v := ?_) (a' := ?_) #[true, false, true, true, true, false, true, false, false, false, false, false] rfl rfl (by kernel_rfl) (fun _ _ _ h => h) (Or.inl ⟨by rfl, ?_⟩) ?_ ?_
                rotate_left
                · intro w'
                  go_simp
                  with_reducible rfl
                rotate_left
                · simp only [Act.put, List.setIfInBounds_toArray, List.set_cons_zero, List.set_cons_succ, i64_w, i32_w]
                  rfl
                refine pure_ (i := 7) (N := some 61) (v := ?_) (a' := ?_) #[true, false, true, true, true, false, true, true, false, false, false, false] rfl rfl (by kernel_rfl) (fun _ _ _ h => h) (Or.inl ⟨by rfl, ?_⟩) ?_ ?_
                rotate_left
                · intro w'
                  go_simp
                  with_reducible rfl
                rotate_left
                · simp only [Act.put, List.setIfInBounds_toArray, List.set_cons_zero, List.set_cons_succ, i64_w, i32_w]
                  rfl
                refine pure_ (i := 8) (N := some 62) (v := ?_) (a' := ?_) #[true, false, true, true, true, false, true, true, true, false, false, false] rfl rfl (by kernel_rfl) (fun _ _ _ h => h) (Or.inl ⟨by rfl, ?_⟩) ?_ ?_
                rotate_left
                · intro w'
                  go_simp
                  with_reducible rfl
                rotate_left
                · simp only [Act.put, List.setIfInBounds_toArray, List.set_cons_zero, List.set_cons_succ, i64_w, i32_w]
                  rfl
                refine one_ (i := 1) (N := some 55) #[true, true, true, true, true, false, true, true, true, false, false, false] rfl rfl (by kernel_rfl) (by decide) (fun K hK => ?_)
                refine value_ (v := .slice (some ⟨wr.drew.heap.size, 0, none⟩) 0 0) (w1 := wr.drew.alloc (.cells #[] 69)) (by rfl) rfl (by first | (go_simp; done) | (go_simp; rfl)) ?_
                refine hK.out _ _ trivial (fun _ => ?_)
                clear hK K
                refine norm_ (a' := ?_) ?_ ?_
                rotate_left
                · simp only [Act.put, List.setIfInBounds_toArray, List.set_cons_zero, List.set_cons_succ, i64_w, i32_w]
                  rfl
                have hlit : Kd.R (Kd.int .i8) 69 (wr.drew.alloc (.cells #[] 69)) w.heap.size (fun k => wr.heap.size ≤ k) (.slice (some ⟨wr.drew.heap.size, 0, none⟩) 0 0) [] := lit69 (W := wr.drew) HI.out.b.size
                have hbl : Below wr.heap.size wr (wr.drew.alloc (.cells #[] 69)) := below_alloc (below_drew1 (Below.refl _ _)) _
                generalize wr.drew.alloc (.cells #[] 69) = w4 at hlit hbl ⊢
                generalize wr.drew.heap.size = gl at hlit ⊢
                refine one_ (i := 5) (N := some 59) #[true, true, true, true, true, true, true, true, true, false, false, false] rfl rfl (by kernel_rfl) (by decide) (fun K hK => ?_)
                refine Kd.R_append_rows_step (Kd.int .i8) (w0 := w) w.heap.size (by rfl) (.tmp 55) (.tmp 58) 24 69 (.int .i8 0) 1 rfl Try.underlying24 info69 rfl (by decide) (by omega) (.slice (some ⟨gl, 0, none⟩) 0 0) ([] : List Int) (L.take m) A m c (fun k => wr.heap.size ≤ k) (fun _ => False) rfl rfl hlit (Kd.C_below HC1.out (below_step HI.out.b hbl)) (fun _ _ h => h) (fun _ h => h.elim) (fun k hk => Nat.le_trans hbl.size hk) (below_step HI.out.b hbl) (below_step HI.out.b hbl).size (by have := HM12.out; simp only [List.length_nil]; omega) ?_
                intro v5 w5 ho hb5 hg hat
                have hbw : Below wr.heap.size wr w5 := by
                  refine ⟨hg.os.trans hbl.os, hg.tape.trans hbl.tape, hg.output.trans hbl.output, Nat.le_trans hbl.size hg.size, fun k hk => ?_⟩
                  refine (hg.block k (Nat.lt_of_lt_of_le hk hbl.size) (fun e_ => ?_)).trans (hbl.block k hk)
                  have h1 := hlit.1 k e_.symm
                  omega
                refine hK.out _ _ trivial (fun _ => ?_)
                clear hK K
                refine norm_ (a' := ?_) ?_ ?_
                rotate_left
                · simp only [Act.put, List.setIfInBounds_toArray, List.set_cons_zero, List.set_cons_succ, i64_w, i32_w]
                  rfl
                rw [List.nil_append] at ho
                obtain ⟨A5, c5, hv5⟩ := Kd.R_slice ho
                have hst := (HI.out.step (v := v5) hbw (by omega) (by have h_ := ho; rw [KL.out] at h_; exact h_))
                obtain ⟨⟨u5, hu5⟩, hf5⟩ := (HI.out.below hbw).cell (p := i * 4 + 1) (by omega)
                clear ho hg hat hb5 hlit hbl
                subst hv5
                refine pure_ (i := 9) (N := some 63) (v := ?_) (a' := ?_) #[true, true, true, true, true, true, true, true, true, true, false, false] rfl rfl (by kernel_rfl) (fun _ _ _ h => h) (Or.inl ⟨by rfl, ?_⟩) ?_ ?_
                rotate_left
                · intro w'
                  go_simp
                  with_reducible rfl
                rotate_left
                · simp only [Act.put, List.setIfInBounds_toArray, List.set_cons_zero, List.set_cons_succ, i64_w, i32_w]
                  rfl
                refine one_ (i := 10) (N := none) #[true, true, true, true, true, true, true, true, true, true, true, false] rfl rfl (by kernel_rfl) (by decide) (fun K hK => ?_)
                refine skip_ (w1 := w5.setCell ⟨bl, i * 4 + 1, none⟩ (.slice A5 (L.take m).length c5)) (by rfl) rfl (by first | (go_simp; done) | (go_simp; rfl)) ?_
                refine hK.out _ _ trivial (fun _ => ?_)
                clear hK K
                refine pure_ (i := 11) (N := some 3) (v := ?_) (a' := ?_) #[true, true, true, true, true, true, true, true, true, true, true, true] rfl rfl (by kernel_rfl) (fun _ _ _ h => h) (Or.inl ⟨by rfl, ?_⟩) ?_ ?_
                rotate_left
                · intro w'
                  go_simp
                  with_reducible rfl
                rotate_left
                · simp only [Act.put, List.setIfInBounds_toArray, List.set_cons_zero, List.set_cons_succ, i64_w, i32_w]
                  rfl
                refine done_ (by kernel_rfl) ?_
                clear hu5 hf5 hbw
                have HI2 := Aside0.mk hst
                clear hst HI
                have HI := HI2
                clear HI2
                go_wp2
                go_roundg 2
                case measure => omega
                case rel =>
                  refine ⟨2, A2, len - m, c - m, rfl, rfl, by omega, ⟨?_⟩, ⟨by have h_ := HI.out; rw [List.length_take] at h_; exact h_⟩⟩
                  obtain ⟨e1, e2, e3⟩ := HV12.out
                  have h_ := HC2.out
                  rw [KL.out, List.drop_drop] at h_
                  refine ⟨by rw [show (i * 4 + 2) * m = (i * 4 + 1) * m + m from Nat.succ_mul _ _]; exact h_, by omega, ?_⟩
                  rw [e2, ← Nat.sub_one_mul, Nat.sub_sub]
              · obtain ⟨L, hL⟩ : ∃ L, L = l3.drop ((i * 4 + 2) * m) := ⟨_, rfl⟩
                have KL := Aside0.mk hL
                obtain ⟨hV1, hV2, hV3⟩ := HV.out
                have hml : m ≤ len := by rw [hV3]; exact Nat.le_mul_of_pos_left _ (by omega)
                rw [← hL] at hV1
                obtain ⟨A2, hc1, hc2, hc3, hc4⟩ := cuts69 hV1 hml hV2
                have HC1 := Aside0.mk hc3
                have HC2 := Aside0.mk hc4
                have HV12 := Aside0.mk (And.intro hV2 (And.intro hV3 hml))
                clear hc3 hc4 hL hV1 hV2 hV3 hml HV
                have ix_ := idx4S_2 (some ⟨bl, i * 4, none⟩) (some ⟨bl, i * 4 + 1, none⟩) (some ⟨bl, i * 4 + 2, none⟩) (some ⟨bl, i * 4 + 3, none⟩)
                go_wp2
                refine start_ (n := 12) (S := fun w' => True) (ds := []) #[false, false, false, false, false, false, false, false, false, false, false, false] (by kernel_rfl) rfl rfl trivial (fun hHeld => ?_)
                refine pure_ (i := 0) (N := some 54) (v := ?_) (a' := ?_) #[true, false, false, false, false, false, false, false, false, false, false, false] rfl rfl (by kernel_rfl) (fun _ _ _ h => h) (Or.inl ⟨by rfl, ?_⟩) ?_ ?_
                rotate_left
                · intro w'
                  go_simp
                  with_reducible rfl
                rotate_left
                · simp only [Act.put, List.setIfInBounds_toArray, List.set_cons_zero, List.set_cons_succ, i64_w, i32_w]
                  rfl
                refine pure_ (i := 2) (N := some 56) (v := ?_) (a' := ?_) #[true, false, true, false, false, false, false, false, false, false, false, false] rfl rfl (by kernel_rfl) (fun _ _ _ h => h) (Or.inl ⟨by rfl, ?_⟩) ?_ ?_
                rotate_left
                · intro w'
                  go_simp
                  with_reducible rfl
                rotate_left
                · simp only [Act.put, List.setIfInBounds_toArray, List.set_cons_zero, List.set_cons_succ, i64_w, i32_w]
                  rfl
                refine pure_ (i := 3) (N := some 57) (v := ?_) (a' := ?_) #[true, false, true, true, false, false, false, false, false, false, false, false] rfl rfl (by kernel_rfl) (fun _ _ _ h => h) (Or.inl ⟨by rfl, ?_⟩) ?_ ?_
                rotate_left
                · intro w'
                  go_simp
                  with_reducible rfl
                rotate_left
                · simp only [Act.put, List.setIfInBounds_toArray, List.set_cons_zero, List.set_cons_succ, i64_w, i32_w]
                  rfl
                refine pure_ (i := 4) (N := some 58) (v := ?_) (a' := ?_) #[true, false, true, true, true, false, false, false, false, false, false, false] rfl rfl (by kernel_rfl) (fun _ _ _ h => h) (Or.inl ⟨by rfl, ?_⟩) ?_ ?_
                rotate_left
                · intro w'
                  go_simp
                  with_reducible rfl
                rotate_left
                · simp only [Act.put, List.setIfInBounds_toArray, List.set_cons_zero, List.set_cons_succ, i64_w, i32_w]
                  rfl
                refine pure_ (i := 6) (N := some 60) (v := ?_) (a' := ?_) #[true, false, true, true, true, false, true, false, false, false, false, false] rfl rfl (by kernel_rfl) (fun _ _ _ h => h) (Or.inl ⟨by rfl, ?_⟩) ?_ ?_
                rotate_left
                · intro w'
                  go_simp
                  with_reducible rfl
                rotate_left
                · simp only [Act.put, List.setIfInBounds_toArray, List.set_cons_zero, List.set_cons_succ, i64_w, i32_w]
                  rfl
                refine pure_ (i := 7) (N := some 61) (v := ?_) (a' := ?_) #[true, false, true, true, true, false, true, true, false, false, false, false] rfl rfl (by kernel_rfl) (fun _ _ _ h => h) (Or.inl ⟨by rfl, ?_⟩) ?_ ?_
                rotate_left
                · intro w'
                  go_simp
                  with_reducible rfl
                rotate_left
                · simp only [Act.put, List.setIfInBounds_toArray, List.set_cons_zero, List.set_cons_succ, i64_w, i32_w]
                  rfl
                refine pure_ (i := 8) (N := some 62) (v := ?_) (a' := ?_) #[true, false, true, true, true, false, true, true, true, false, false, false] rfl rfl (by kernel_rfl) (fun _ _ _ h => h) (Or.inl ⟨by rfl, ?_⟩) ?_ ?_
                rotate_left
                · intro w'
                  go_simp
                  with_reducible rfl
                rotate_left
                · simp only [Act.put, List.setIfInBounds_toArray, List.set_cons_zero, List.set_cons_succ, i64_w, i32_w]
                  rfl
                refine one_ (i := 1) (N := some 55) #[true, true, true, true, true, false, true, true, true, false, false, false] rfl rfl (by kernel_rfl) (by decide) (fun K hK => ?_)
                refine value_ (v := .slice (some ⟨wr.drew.heap.size, 0, none⟩) 0 0) (w1 := wr.drew.alloc (.cells #[] 69)) (by rfl) rfl (by first | (go_simp; done) | (go_simp; rfl)) ?_
                refine hK.out _ _ trivial (fun _ => ?_)
                clear hK K
                refine norm_ (a' := ?_) ?_ ?_
                rotate_left
                · simp only [Act.put, List.setIfInBounds_toArray, List.set_cons_zero, List.set_cons_succ, i64_w, i32_w]
                  rfl
                have hlit : Kd.R (Kd.int .i8) 69 (wr.drew.alloc (.cells #[] 69)) w.heap.size (fun k => wr.heap.size ≤ k) (.slice (some ⟨wr.drew.heap.size, 0, none⟩) 0 0) [] := lit69 (W := wr.drew) HI.out.b.size
                have hbl : Below wr.heap.size wr (wr.drew.alloc (.cells #[] 69)) := below_alloc (below_drew1 (Below.refl _ _)) _
                generalize wr.drew.alloc (.cells #[] 69) = w4 at hlit hbl ⊢
                generalize wr.drew.heap.size = gl at hlit ⊢
                refine one_ (i := 5) (N := some 59) #[true, true, true, true, true, true, true, true, true, false, false, false] rfl rfl (by kernel_rfl) (by decide) (fun K hK => ?_)
                refine Kd.R_append_rows_step (Kd.int .i8) (w0 := w) w.heap.size (by rfl) (.tmp 55) (.tmp 58) 24 69 (.int .i8 0) 1 rfl Try.underlying24 info69 rfl (by decide) (by omega) (.slice (some ⟨gl, 0, none⟩) 0 0) ([] : List Int) (L.take m) A m c (fun k => wr.heap.size ≤ k) (fun _ => False) rfl rfl hlit (Kd.C_below HC1.out (below_step HI.out.b hbl)) (fun _ _ h => h) (fun _ h => h.elim) (fun k hk => Nat.le_trans hbl.size hk) (below_step HI.out.b hbl) (below_step HI.out.b hbl).size (by have := HM12.out; simp only [List.length_nil]; omega) ?_
                intro v5 w5 ho hb5 hg hat
                have hbw : Below wr.heap.size wr w5 := by
                  refine ⟨hg.os.trans hbl.os, hg.tape.trans hbl.tape, hg.output.trans hbl.output, Nat.le_trans hbl.size hg.size, fun k hk => ?_⟩
                  refine (hg.block k (Nat.lt_of_lt_of_le hk hbl.size) (fun e_ => ?_)).trans (hbl.block k hk)
                  have h1 := hlit.1 k e_.symm
                  omega
                refine hK.out _ _ trivial (fun _ => ?_)
                clear hK K
                refine norm_ (a' := ?_) ?_ ?_
                rotate_left
                · simp only [Act.put, List.setIfInBounds_toArray, List.set_cons_zero, List.set_cons_succ, i64_w, i32_w]
                  rfl
                rw [List.nil_append] at ho
                obtain ⟨A5, c5, hv5⟩ := Kd.R_slice ho
                have hst := (HI.out.step (v := v5) hbw (by omega) (by have h_ := ho; rw [KL.out] at h_; exact h_))
                obtain ⟨⟨u5, hu5⟩, hf5⟩ := (HI.out.below hbw).cell (p := i * 4 + 2) (by omega)
                clear ho hg hat hb5 hlit hbl
                subst hv5
                refine pure_ (i := 9) (N := some 63) (v := ?_) (a' := ?_) #[true, true, true, true, true, true, true, true, true, true, false, false] rfl rfl (by kernel_rfl) (fun _ _ _ h => h) (Or.inl ⟨by rfl, ?_⟩) ?_ ?_
                rotate_left
                · intro w'
                  go_simp
                  with_reducible rfl
                rotate_left
                · simp only [Act.put, List.setIfInBounds_toArray, List.set_cons_zero, List.set_cons_succ, i64_w, i32_w]
                  rfl
                refine one_ (i := 10) (N := none) #[true, true, true, true, true, true, true, true, true, true, true, false] rfl rfl (by kernel_rfl) (by decide) (fun K hK => ?_)
                refine skip_ (w1 := w5.setCell ⟨bl, i * 4 + 2, none⟩ (.slice A5 (L.take m).length c5)) (by rfl) rfl (by first | (go_simp; done) | (go_simp; rfl)) ?_
                refine hK.out _ _ trivial (fun _ => ?_)
                clear hK K
                refine pure_ (i := 11) (N := some 3) (v := ?_) (a' := ?_) #[true, true, true, true, true, true, true, true, true, true, true, true] rfl rfl (by kernel_rfl) (fun _ _ _ h => h) (Or.inl ⟨by rfl, ?_⟩) ?_ ?_
                rotate_left
                · intro w'
                  go_simp
                  with_reducible rfl
                rotate_left
                · simp only [Act.put, List.setIfInBounds_toArray, List.set_cons_zero, List.set_cons_succ, i64_w, i32_w]
                  rfl
                refine done_ (by kernel_rfl) ?_
                clear hu5 hf5 hbw
                have HI2 := Aside0.mk hst
                clear hst HI
                have HI := HI2
                clear HI2
                go_wp2
                go_roundg 1
                case measure => omega
                case rel =>
                  refine ⟨3, A2, len - m, c - m, rfl, rfl, by omega, ⟨?_⟩, ⟨by have h_ := HI.out; rw [List.length_take] at h_; exact h_⟩⟩
                  obtain ⟨e1, e2, e3⟩ := HV12.out
                  have h_ := HC2.out
                  rw [KL.out, List.drop_drop] at h_
                  refine ⟨by rw [show (i * 4 + 3) * m = (i * 4 + 2) * m + m from Nat.succ_mul _ _]; exact h_, by omega, ?_⟩
                  rw [e2, ← Nat.sub_one_mul, Nat.sub_sub]
              · obtain ⟨L, hL⟩ : ∃ L, L = l3.drop ((i * 4 + 3) * m) := ⟨_, rfl⟩
                have KL := Aside0.mk hL
                obtain ⟨hV1, hV2, hV3⟩ := HV.out
                have hml : m ≤ len := by rw [hV3]; exact Nat.le_mul_of_pos_left _ (by omega)
                rw [← hL] at hV1
                obtain ⟨A2, hc1, hc2, hc3, hc4⟩ := cuts69 hV1 hml hV2
                have HC1 := Aside0.mk hc3
                have HC2 := Aside0.mk hc4
                have HV12 := Aside0.mk (And.intro hV2 (And.intro hV3 hml))
                clear hc3 hc4 hL hV1 hV2 hV3 hml HV
                have ix_ := idx4S_3 (some ⟨bl, i * 4, none⟩) (some ⟨bl, i * 4 + 1, none⟩) (some ⟨bl, i * 4 + 2, none⟩) (some ⟨bl, i * 4 + 3, none⟩)
                go_wp2
                refine start_ (n := 12) (S := fun w' => True) (ds := []) #[false, false, false, false, false, false, false, false, false, false, false, false] (by kernel_rfl) rfl rfl trivial (fun hHeld => ?_)
                refine pure_ (i := 0) (N := some 54) (v := ?_) (a' := ?_) #[true, false, false, false, false, false, false, false, false, false, false, false] rfl rfl (by kernel_rfl) (fun _ _ _ h => h) (Or.inl ⟨by rfl, ?_⟩) ?_ ?_
                rotate_left
                · intro w'
                  go_simp
                  with_reducible rfl
                rotate_left
                · simp only [Act.put, List.setIfInBounds_toArray, List.set_cons_zero, List.set_cons_succ, i64_w, i32_w]
                  rfl
                refine pure_ (i := 2) (N := some 56) (v := ?_) (a' := ?_) #[true, false, true, false, false, false, false, false, false, false, false, false] rfl rfl (by kernel_rfl) (fun _ _ _ h => h) (Or.inl ⟨by rfl, ?_⟩) ?_ ?_
                rotate_left
                · intro w'
                  go_simp
                  with_reducible rfl
                rotate_left
                · simp only [Act.put, List.setIfInBounds_toArray, List.set_cons_zero, List.set_cons_succ, i64_w, i32_w]
                  rfl
                refine pure_ (i := 3) (N := some 57) (v := ?_) (a' := ?_) #[true, false, true, true, false, false, false, false, false, false, false, false] rfl rfl (by kernel_rfl) (fun _ _ _ h => h) (Or.inl ⟨by rfl, ?_⟩) ?_ ?_
                rotate_left
                · intro w'
                  go_simp
                  with_reducible rfl
                rotate_left
                · simp only [Act.put, List.setIfInBounds_toArray, List.set_cons_zero, List.set_cons_succ, i64_w, i32_w]
                  rfl
                refine pure_ (i := 4) (N := some 58) (v := ?_) (a' := ?_) #[true, false, true, true, true, false, false, false, false, false, false, false] rfl rfl (by kernel_rfl) (fun _ _ _ h => h) (Or.inl ⟨by rfl, ?_⟩) ?_ ?_
                rotate_left
                · intro w'
                  go_simp
                  with_reducible rfl
                rotate_left
                · simp only [Act.put, List.setIfInBounds_toArray, List.set_cons_zero, List.set_cons_succ, i64_w, i32_w]
                  rfl
                refine pure_ (i := 6) (N := some 60) (v := ?_) (a' := ?_) #[true, false, true, true, true, false, true, false, false, false, false, false] rfl rfl (by kernel_rfl) (fun _ _ _ h => h) (Or.inl ⟨by rfl, ?_⟩) ?_ ?_
                rotate_left
                · intro w'
                  go_simp
                  with_reducible rfl
                rotate_left
                · simp only [Act.put, List.setIfInBounds_toArray, List.set_cons_zero, List.set_cons_succ, i64_w, i32_w]
                  rfl
                refine pure_ (i := 7) (N := some 61) (v := ?_) (a' := ?_) #[true, false, true, true, true, false, true, true, false, false, false, false] rfl rfl (by kernel_rfl) (fun _ _ _ h => h) (Or.inl ⟨by rfl, ?_⟩) ?_ ?_
                rotate_left
                · intro w'
                  go_simp
                  with_reducible rfl
                rotate_left
                · simp only [Act.put, List.setIfInBounds_toArray, List.set_cons_zero, List.set_cons_succ, i64_w, i32_w]
                  rfl
                refine pure_ (i := 8) (N := some 62) (v := ?_) (a' := ?_) #[true, false, true, true, true, false, true, true, true, false, false, false] rfl rfl (by kernel_rfl) (fun _ _ _ h => h) (Or.inl ⟨by rfl, ?_⟩) ?_ ?_
                rotate_left
                · intro w'
                  go_simp
                  with_reducible rfl
                rotate_left
                · simp only [Act.put, List.setIfInBounds_toArray, List.set_cons_zero, List.set_cons_succ, i64_w, i32_w]
                  rfl
                refine one_ (i := 1) (N := some 55) #[true, true, true, true, true, false, true, true, true, false, false, false] rfl rfl (by kernel_rfl) (by decide) (fun K hK => ?_)
                refine value_ (v := .slice (some ⟨wr.drew.heap.size, 0, none⟩) 0 0) (w1 := wr.drew.alloc (.cells #[] 69)) (by rfl) rfl (by first | (go_simp; done) | (go_simp; rfl)) ?_
                refine hK.out _ _ trivial (fun _ => ?_)
                clear hK K
                refine norm_ (a' := ?_) ?_ ?_
                rotate_left
                · simp only [Act.put, List.setIfInBounds_toArray, List.set_cons_zero, List.set_cons_succ, i64_w, i32_w]
                  rfl
                have hlit : Kd.R (Kd.int .i8) 69 (wr.drew.alloc (.cells #[] 69)) w.heap.size (fun k => wr.heap.size ≤ k) (.slice (some ⟨wr.drew.heap.size, 0, none⟩) 0 0) [] := lit69 (W := wr.drew) HI.out.b.size
                have hbl : Below wr.heap.size wr (wr.drew.alloc (.cells #[] 69)) := below_alloc (below_drew1 (Below.refl _ _)) _
                generalize wr.drew.alloc (.cells #[] 69) = w4 at hlit hbl ⊢
                generalize wr.drew.heap.size = gl at hlit ⊢
                refine one_ (i := 5) (N := some 59) #[true, true, true, true, true, true, true, true, true, false, false, false] rfl rfl (by kernel_rfl) (by decide) (fun K hK => ?_)
                refine Kd.R_append_rows_step (Kd.int .i8) (w0 := w) w.heap.size (by rfl) (.tmp 55) (.tmp 58) 24 69 (.int .i8 0) 1 rfl Try.underlying24 info69 rfl (by decide) (by omega) (.slice (some ⟨gl, 0, none⟩) 0 0) ([] : List Int) (L.take m) A m c (fun k => wr.heap.size ≤ k) (fun _ => False) rfl rfl hlit (Kd.C_below HC1.out (below_step HI.out.b hbl)) (fun _ _ h => h) (fun _ h => h.elim) (fun k hk => Nat.le_trans hbl.size hk) (below_step HI.out.b hbl) (below_step HI.out.b hbl).size (by have := HM12.out; simp only [List.length_nil]; omega) ?_
                intro v5 w5 ho hb5 hg hat
                have hbw : Below wr.heap.size wr w5 := by
                  refine ⟨hg.os.trans hbl.os, hg.tape.trans hbl.tape, hg.output.trans hbl.output, Nat.le_trans hbl.size hg.size, fun k hk => ?_⟩
                  refine (hg.block k (Nat.lt_of_lt_of_le hk hbl.size) (fun e_ => ?_)).trans (hbl.block k hk)
                  have h1 := hlit.1 k e_.symm
                  omega
                refine hK.out _ _ trivial (fun _ => ?_)
                clear hK K
                refine norm_ (a' := ?_) ?_ ?_
                rotate_left
                · simp only [Act.put, List.setIfInBounds_toArray, List.set_cons_zero, List.set_cons_succ, i64_w, i32_w]
                  rfl
                rw [List.nil_append] at ho
                obtain ⟨A5, c5, hv5⟩ := Kd.R_slice ho
                have hst := (HI.out.step (v := v5) hbw (by omega) (by have h_ := ho; rw [KL.out] at h_; exact h_))
                obtain ⟨⟨u5, hu5⟩, hf5⟩ := (HI.out.below hbw).cell (p := i * 4 + 3) (by omega)
                clear ho hg hat hb5 hlit hbl
                subst hv5
                refine pure_ (i := 9) (N := some 63) (v := ?_) (a' := ?_) #[true, true, true, true, true, true, true, true, true, true, false, false] rfl rfl (by kernel_rfl) (fun _ _ _ h => h) (Or.inl ⟨by rfl, ?_⟩) ?_ ?_
                rotate_left
                · intro w'
                  go_simp
                  with_reducible rfl
                rotate_left
                · simp only [Act.put, List.setIfInBounds_toArray, List.set_cons_zero, List.set_cons_succ, i64_w, i32_w]
                  rfl
                refine one_ (i := 10) (N := none) #[true, true, true, true, true, true, true, true, true, true, true, false] rfl rfl (by kernel_rfl) (by decide) (fun K hK => ?_)
                refine skip_ (w1 := w5.setCell ⟨bl, i * 4 + 3, none⟩ (.slice A5 (L.take m).length c5)) (by rfl) rfl (by first | (go_simp; done) | (go_simp; rfl)) ?_
                refine hK.out _ _ trivial (fun _ => ?_)
                clear hK K
                refine pure_ (i := 11) (N := some 3) (v := ?_) (a' := ?_) #[true, true, true, true, true, true, true, true, true, true, true, true] rfl rfl (by kernel_rfl) (fun _ _ _ h => h) (Or.inl ⟨by rfl, ?_⟩) ?_ ?_
                rotate_left
                · intro w'
                  go_simp
                  with_reducible rfl
                rotate_left
                · simp only [Act.put, List.setIfInBounds_toArray, List.set_cons_zero, List.set_cons_succ, i64_w, i32_w]
                  rfl
                refine done_ (by kernel_rfl) ?_
                clear hu5 hf5 hbw
                have HI2 := Aside0.mk hst
                clear hst HI
                have HI := HI2
                clear HI2
                go_wp2
                go_roundg 0
                case measure => omega
                case rel =>
                  refine ⟨4, A2, len - m, c - m, rfl, rfl, by omega, ⟨?_⟩, ⟨by have h_ := HI.out; rw [List.length_take] at h_; exact h_⟩⟩
                  obtain ⟨e1, e2, e3⟩ := HV12.out
                  have h_ := HC2.out
                  rw [KL.out, List.drop_drop] at h_
                  refine ⟨by rw [show (i * 4 + 4) * m = (i * 4 + 3) * m + m from Nat.succ_mul _ _]; exact h_, by omega, ?_⟩
                  rw [e2, ← Nat.sub_one_mul, Nat.sub_sub]
              · go_wp2
                go_roundg (n - i - 1)
                case measure => omega
                case rel =>
                  refine ⟨i + 1, A, len, c, by simp, rfl, by omega, ⟨?_⟩, ⟨?_⟩⟩
                  · have h_ := HV.out
                    rw [show (i + 1) * 4 = i * 4 + 4 from by omega]
                    exact h_
                  · have h_ := HI.out
                    rw [show (i + 1) * 4 = i * 4 + 4 from by omega]
                    exact h_
          · have cb : decide ((i : Int) < (n : Int)) = false := decide_eq_false (by omega)
            obtain rfl : i = n := by omega
            have hz0 : wr.cell? ⟨w.heap.size + 1, 0, none⟩ = some (.int .i64 0) := (blk_cell HI.out.res 0).trans rfl
            have hz1 : wr.cell? ⟨w.heap.size + 1, 1, none⟩ = some (.int .i64 0) := (blk_cell HI.out.res 1).trans rfl
            have hz2 : wr.cell? ⟨w.heap.size + 1, 2, none⟩ = some (.slice none 0 0) := (blk_cell HI.out.res 2).trans rfl
            have fz0 := blk_frozen HI.out.res 0
            have fz1 := blk_frozen HI.out.res 1
            have fz2 := blk_frozen HI.out.res 2
            go_wp2
            exact bodyPost_ret (v := .tuple #[.agg #[.int .i64 a0, .int .i64 a1, .slice (some ⟨bl, 0, none⟩) i i], .int .i64 0]) (by simp [results, Try.results10, go_sem, hz0, hz1, hz2, fz0, fz1, fz2]) rfl ⟨_, rfl, (((HI.out.li.res 0 _).res 1 _).res 2 _).done (by omega), below_set (below_set (below_set HI.out.b (Nat.le_succ _)) (Nat.le_succ _)) (Nat.le_succ _)⟩
      · rw [if_neg cn] at H
        exact absurd H (by simp)
    · rw [if_neg cl] at H
      simp only [Option.some.injEq, Prod.mk.injEq] at H
      obtain ⟨rfl, rfl, rfl, rfl⟩ := H
      have cl1 : ((l3.length : Int) != wrap64 (wrap64 (a2_2 * 4) * wrap64 (a0 * a2_0))) = true := bne_iff_ne.mpr cl
      go_enter Try.func10, Try.ntmps10
      go_wp2_with (first | ((with_reducible refine gate_callee (f := 28) rfl ?_); refine goesL_ (some 18) rfl rfl Try.func28 (by kernel_rfl) rfl #[.int .i64 a0, .int .i64 a1, .agg #[.int .i64 a2_0, .int .i64 a2_1, .int .i64 a2_2, .int .i64 a2_3, .int .i64 a2_4, .int .i64 a2_5, .int .i64 a2_6, .int .i64 a2_7]] rfl (by (try simp only [List.map_toArray, List.map_cons, List.map_nil]); first | done | rfl) ?_; (with_reducible refine (graft_right.calls k a0 a1 a2_0 a2_1 a2_2 a2_3 a2_4 a2_5 a2_6 a2_7 true _ HT.out).mono ?_); rintro e w1 ⟨rfl, hb⟩; refine ⟨_, rfl, ?_⟩; have HI := Aside0.mk (HI0.out.below hb); clear hb HI0; have hz0 : w1.cell? ⟨w.heap.size + 1, 0, none⟩ = some (.int .i64 0) := (blk_cell HI.out.b2 0).trans rfl; have hz1 : w1.cell? ⟨w.heap.size + 1, 1, none⟩ = some (.int .i64 0) := (blk_cell HI.out.b2 1).trans rfl; have hz2 : w1.cell? ⟨w.heap.size + 1, 2, none⟩ = some (.slice none 0 0) := (blk_cell HI.out.b2 2).trans rfl; have hc0 : w1.cell? ⟨w.heap.size, 0, none⟩ = some (.int .i64 a2_0) := (blk_cell HI.out.b1 0).trans rfl; have hc2 : w1.cell? ⟨w.heap.size, 2, none⟩ = some (.int .i64 a2_2) := (blk_cell HI.out.b1 2).trans rfl; have fz0 := blk_frozen HI.out.b2 0; have fz1 := blk_frozen HI.out.b2 1; have fz2 := blk_frozen HI.out.b2 2))
      exact bodyPost_ret (v := .tuple #[.agg #[.int .i64 0, .int .i64 0, .slice none 0 0], .int .i64 21]) (by simp [results, Try.results10, go_sem, hz0, hz1, hz2, fz0, fz1, fz2]) rfl ⟨_, rfl, ⟨fun _ => 0, Kd.R_nil _ _ _ _ _⟩, below_set (below_set (below_set HI.out.bl (Nat.le_succ _)) (Nat.le_succ _)) (Nat.le_succ _)⟩

end Go.Proofs.Ytekaiebfgcjddaa.PGraftBack
