/- A text of the session: functions of the program and their walks, laid by a program of its own (wip/tools/mkprint.py) over the translation. No condition. -/
import Derived.Test.YtekaiebfgcjddaaPGraftBackx0
namespace Go.Proofs.Ytekaiebfgcjddaa.PGraftBack
open Go.RowKit Go.Proofs.YtekaiebfgcjddaaW.PrintWords Go.Proofs.YtekaiebfgcjddaaW.PrintLast Go.Proofs.YtekaiebfgcjddaaW.PrintMore
attribute [local go_sem] max2_int min2_int max_two min_two max_three min_three max_four min_four   -- for this text's walks alone
set_option linter.unusedVariables false
set_option linter.unusedSimpArgs false

/-! ### aviaryref08_Same: function 21 -/
def aviaryref08_Same.l0 : Nat → List Int → List Int → Int → Option (Bool)
  | 0, _, _, _ => none
  | k + 1, x0, x1, x5 => if x5 < (x0.length : Int) then (if 0 ≤ x5 then (if x5 < (x1.length : Int) then (if (rd x0 x5) = (rd x1 x5) then (aviaryref08_Same.l0 k x0 x1 (wrap64 (x5 + 1))) else (some false)) else (none)) else (none)) else (some true)
def aviaryref08_Same.f (k : Nat) (l0 : List Int) (l1 : List Int) : Option (Bool) := if (l0.length : Int) = (l1.length : Int) then (aviaryref08_Same.l0 k l0 l1 0) else (some false)
theorem aviaryref08_Same.mono_l : ∀ k, (∀ y0 y1 y2, LeO (aviaryref08_Same.l0 k y0 y1 y2) (aviaryref08_Same.l0 (k + 1) y0 y1 y2))
  | 0 => fun _ _ _ r h => by simp [aviaryref08_Same.l0] at h
  | k + 1 => by
    have ih0 := aviaryref08_Same.mono_l k
    · intro y0 y1 y2
      unfold aviaryref08_Same.l0
      repeat' first
      | (with_reducible exact ih0 _ _ _)
      | (with_reducible exact LeO.refl _)
      | (with_reducible exact LeO.none _)
      | (with_reducible refine LeO.ite ?_ ?_)
      | (with_reducible refine LeO.bind ?_ (fun _ => ?_))
      | exact ih0 _ _ _
      | exact LeO.none _
      | refine LeO.ite ?_ ?_
      | refine LeO.bind ?_ (fun _ => ?_)
theorem aviaryref08_Same.mono : ∀ a0 a1 k, LeO (aviaryref08_Same.f k a0 a1) (aviaryref08_Same.f (k + 1) a0 a1) := by
  intro a0 a1 k
  have ih0 := aviaryref08_Same.mono_l k
  unfold aviaryref08_Same.f
  repeat' first
      | (with_reducible exact ih0 _ _ _)
      | (with_reducible exact LeO.refl _)
      | (with_reducible exact LeO.none _)
      | (with_reducible refine LeO.ite ?_ ?_)
      | (with_reducible refine LeO.bind ?_ (fun _ => ?_))
      | exact ih0 _ _ _
      | exact LeO.none _
      | refine LeO.ite ?_ ?_
      | refine LeO.bind ?_ (fun _ => ?_)
set_option maxHeartbeats 8000000 in
set_option maxRecDepth 100000 in
theorem aviaryref08_Same.calls (k : Nat) (A0 : Option Addr) (c0 : Nat) (l0 : List Int) (A1 : Option Addr) (c1 : Nat) (l1 : List Int) (r : Bool) (w : World) (hr0 : Kd.C (Kd.int .i8) w A0 l0.length l0) (hc0 : l0.length ≤ c0) (hr1 : Kd.C (Kd.int .i8) w A1 l1.length l1) (hc1 : l1.length ≤ c1) (h : aviaryref08_Same.f k l0 l1 = some r) :
    Calls Try.prog 21 #[.slice A0 l0.length c0, .slice A1 l1.length c1] w fun e w' => e = .returned (.bool r) ∧ Drawn0 w w' := by
  have HR0 := Aside0.mk hr0
  have HC0 := Aside0.mk hc0
  clear hr0 hc0
  have HR1 := Aside0.mk hr1
  have HC1 := Aside0.mk hc1
  clear hr1 hc1
  have H : (if (l0.length : Int) = (l1.length : Int) then (aviaryref08_Same.l0 k l0 l1 0) else (some false)) = some r := h
  clear h
  by_cases c3 : (l0.length : Int) = (l1.length : Int)
  · rw [if_pos c3] at H
    have c3b0 : ((l0.length : Int) == (l1.length : Int)) = true := beq_iff_eq.mpr c3
    have c3b1 : ((l0.length : Int) != (l1.length : Int)) = false := bne_eq_false_iff_eq.mpr c3
    have c3b2 : (l0.length == l1.length) = true := by first | simpa using c3 | (simp at c3 ⊢; omega)
    clear c3
    have H' := Aside0.mk H
    clear H
    go_enter Try.func21, Try.ntmps21
    go_wp2
    repeat (go_quiet (fail); try go_wp2)
    go_loopg [5] k (fun kq v5 w' => ∃ (x5_1 : Int), v5 = .int .i64 x5_1 ∧ Aside0 (aviaryref08_Same.l0 kq l0 l1 x5_1 = some r) ∧ Aside0 (kq ≤ k) ∧ Drawn0 w w')
    case atStart => exact ⟨(0), (by first | rfl | (simp; done) | (simp [*]; done)), H', ⟨Nat.le_refl _⟩, by repeat (first | exact Drawn0.refl _ | apply Drawn0.step)⟩
    case round =>
      clear H'
      try clear c1
      try clear c2
      try clear p2
      try clear c3
      try clear c3b0
      try clear c3b1
      try clear c3b2
      obtain ⟨x5_1, rfl, HA, HK1, ⟨m1, rfl⟩⟩ := hrel
      cases gk with
      | zero => exact absurd HA.out (by simp [aviaryref08_Same.l0])
      | succ k1 =>
        have H := HA.out
        clear HA
        simp only [aviaryref08_Same.l0] at H
        by_cases c4 : x5_1 < (l0.length : Int)
        · rw [if_pos c4] at H
          have c4b0 : decide (x5_1 < (l0.length : Int)) = true := decide_eq_true c4
          clear c4
          by_cases c5 : 0 ≤ x5_1
          · rw [if_pos c5] at H
            have c5b0 : decide (0 ≤ x5_1) = true := decide_eq_true c5
            clear c5
            by_cases c6 : x5_1 < (l1.length : Int)
            · rw [if_pos c6] at H
              have c6b0 : decide (x5_1 < (l1.length : Int)) = true := decide_eq_true c6
              clear c6
              by_cases c7 : (rd l0 x5_1) = (rd l1 x5_1)
              · rw [if_pos c7] at H
                have c7b0 : ((rd l0 x5_1) == (rd l1 x5_1)) = true := beq_iff_eq.mpr c7
                have c7b1 : ((rd l0 x5_1) != (rd l1 x5_1)) = false := bne_eq_false_iff_eq.mpr c7
                clear c7
                have H' := Aside0.mk H
                clear H
                have p114 : 0 ≤ (x5_1 : Int) := of_decide_eq_true (by first | (with_reducible assumption) | assumption)
                have q114 : x5_1 < (l0.length : Int) := of_decide_eq_true (by first | (with_reducible assumption) | assumption)
                obtain ⟨ad114, e114, hx114_0⟩ := Kd.at_int HR0.out x5_1 p114 q114
                cases e114
                replace p114 := eq_true p114
                replace q114 := eq_true q114
                have p115 : 0 ≤ (x5_1 : Int) := of_decide_eq_true (by first | (with_reducible assumption) | assumption)
                have q115 : x5_1 < (l1.length : Int) := of_decide_eq_true (by first | (with_reducible assumption) | assumption)
                obtain ⟨ad115, e115, hx115_0⟩ := Kd.at_int HR1.out x5_1 p115 q115
                cases e115
                replace p115 := eq_true p115
                replace q115 := eq_true q115
                go_wp2
                repeat (go_quiet (fail); try go_wp2)
                go_roundg k1
                case measure => have := HK1.out; omega
                case rel => exact ⟨(wrap64 (x5_1 + 1)), (by first | rfl | (simp; done) | (simp [*]; done)), H', ⟨by have := HK1.out; omega⟩, by repeat (first | exact Drawn0.refl _ | apply Drawn0.step)⟩
              · rw [if_neg c7] at H
                have c7b0 : ((rd l0 x5_1) == (rd l1 x5_1)) = false := beq_eq_false_iff_ne.mpr c7
                have c7b1 : ((rd l0 x5_1) != (rd l1 x5_1)) = true := bne_iff_ne.mpr c7
                obtain rfl := Option.some.inj H
                have p114 : 0 ≤ (x5_1 : Int) := of_decide_eq_true (by first | (with_reducible assumption) | assumption)
                have q114 : x5_1 < (l0.length : Int) := of_decide_eq_true (by first | (with_reducible assumption) | assumption)
                obtain ⟨ad114, e114, hx114_0⟩ := Kd.at_int HR0.out x5_1 p114 q114
                cases e114
                replace p114 := eq_true p114
                replace q114 := eq_true q114
                have p115 : 0 ≤ (x5_1 : Int) := of_decide_eq_true (by first | (with_reducible assumption) | assumption)
                have q115 : x5_1 < (l1.length : Int) := of_decide_eq_true (by first | (with_reducible assumption) | assumption)
                obtain ⟨ad115, e115, hx115_0⟩ := Kd.at_int HR1.out x5_1 p115 q115
                cases e115
                replace p115 := eq_true p115
                replace q115 := eq_true q115
                go_wp2
                repeat (go_quiet (fail); try go_wp2)
                go_ret
                exact ⟨by first | rfl | (simp; done) | (simp [*]; done), by repeat (first | exact Drawn0.refl _ | apply Drawn0.step)⟩
            · rw [if_neg c6] at H
              exact absurd H (by simp)
          · rw [if_neg c5] at H
            exact absurd H (by simp)
        · rw [if_neg c4] at H
          have c4b0 : decide (x5_1 < (l0.length : Int)) = false := decide_eq_false c4
          clear c4
          obtain rfl := Option.some.inj H
          go_wp2
          repeat (go_quiet (fail); try go_wp2)
          go_ret
          exact ⟨by first | rfl | (simp; done) | (simp [*]; done), by repeat (first | exact Drawn0.refl _ | apply Drawn0.step)⟩
  · rw [if_neg c3] at H
    have c3b0 : ((l0.length : Int) == (l1.length : Int)) = false := beq_eq_false_iff_ne.mpr c3
    have c3b1 : ((l0.length : Int) != (l1.length : Int)) = true := bne_iff_ne.mpr c3
    have c3b2 : (l0.length == l1.length) = false := by first | simpa using c3 | (simp at c3 ⊢; omega)
    obtain rfl := Option.some.inj H
    go_enter Try.func21, Try.ntmps21
    go_wp2
    repeat (go_quiet (fail); try go_wp2)
    go_ret
    exact ⟨by first | rfl | (simp; done) | (simp [*]; done), by repeat (first | exact Drawn0.refl _ | apply Drawn0.step)⟩

/-! ### aviaryref10_Same: function 12 -/
theorem below_setCells2_ {B : Nat} {w0 : World} {g : Nat} (hg : B ≤ g) : ∀ (vs : List Value) (o : Nat) {w : World}, Below B w0 w → Below B w0 (w.setCells g o vs)
  | [], _, _, h => h
  | v :: r, o, w, h => below_setCells2_ hg r (o + 1) (h.setCell (p := ⟨g, o, none⟩) hg v)
def aviaryref10_Same.T6 : Bool × List (List Nat × List Nat) := (true, [([], []), ([0], [0]), ([], []), ([1, 2], [1, 2]), ([3], [3]), ([], []), ([5], [5]), ([], []), ([6, 7], [6, 7]), ([8], [8]), ([], []), ([], []), ([10, 4, 0, 1, 2, 3, 4, 10, 11], [4, 10]), ([11, 9, 12, 0, 1, 2, 3, 4, 5, 6, 7, 8, 9, 10, 11, 12], [9, 11])])
def aviaryref10_Same.B6 : List Nat := [0, 1, 0, 7, 15, 0, 32, 0, 224, 480, 0, 0, 3103, 8191]
theorem aviaryref10_Same.tab6 : rtab .any (opsOf Try.f12 6) = aviaryref10_Same.T6 := by kernel_rfl
theorem aviaryref10_Same.bits6 : waitsOk aviaryref10_Same.T6.2 aviaryref10_Same.B6 = true := by kernel_rfl
theorem sizeSet_ (g : Nat) : ∀ (vs : List Value) (o : Nat) (w : World), (w.setCells g o vs).heap.size = w.heap.size
  | [], _, _ => rfl
  | v :: r, o, w => by
    show ((w.setCell ⟨g, o, none⟩ v).setCells g (o + 1) r).heap.size = _
    rw [sizeSet_ g r]
    simp [World.setCell]
theorem store_blk {P : Program} {w : World} {g : Nat} {e t : TypeId} {cur : Array Value} (seg : List Value) (hh : w.heap[g]? = some (.cells cur e (0, 0))) (ht : (P.info? t).map (·.size) = some seg.length) (hlen : seg.length = cur.size) (h1 : ∀ q ∈ seg, q.oneCell' = true) :
    (Instr.storeAt t (.pointer (some ⟨g, 0, none⟩)) (.agg seg.toArray)).run P w = .ok () (w.setCells g 0 seg) ∧ (w.setCells g 0 seg).heap[g]? = some (.cells seg.toArray e (0, 0)) ∧ (∀ k, k ≠ g → (w.setCells g 0 seg).heap[k]? = w.heap[k]?) ∧ (w.setCells g 0 seg).heap.size = w.heap.size := by
  refine ⟨run_store_run (o := 0) t (.agg seg.toArray) seg hh (by simp [Value.cells]) ht (by omega) h1, ?_, fun k hk => setCells_far seg 0 (w := w) k (g := g) hk, sizeSet_ g seg 0 w⟩
  obtain ⟨cur', r1, _, r3⟩ := setCells_row seg 0 w cur hh (by omega)
  have hc : cur' = seg.toArray := by
    apply Array.toList_inj.1
    rw [r3, List.take_zero, List.nil_append, List.drop_of_length_le (by rw [Array.length_toList]; omega), List.append_nil]
  rw [r1, hc]
structure SmB (w : World) (a0 a1 : Int) (A0 A1 : Option Addr) (n c0 c1 : Nat) (W : World) : Prop where
  b1 : W.heap[w.heap.size]? = some (.cells #[.int .i64 a0, .int .i64 a1, .slice A0 n c0] 27 (0, 0))
  b2 : W.heap[w.heap.size + 1]? = some (.cells #[.int .i64 a0, .int .i64 a1, .slice A1 n c1] 27 (0, 0))
  b : Below w.heap.size w W
theorem SmB.below {w W W1 : World} {a0 a1 : Int} {A0 A1 : Option Addr} {n c0 c1 : Nat} (h : SmB w a0 a1 A0 A1 n c0 c1 W) (hb : Below W.heap.size W W1) : SmB w a0 a1 A0 A1 n c0 c1 W1 := ⟨blk_below h.b1 hb, blk_below h.b2 hb, below_step h.b hb⟩
theorem SmB.far {w W : World} {a0 a1 : Int} {A0 A1 : Option Addr} {n c0 c1 g : Nat} {vs : List Value} (h : SmB w a0 a1 A0 A1 n c0 c1 W) (hf : ∀ k, k ≠ g → (W.setCells g 0 vs).heap[k]? = W.heap[k]?) (hs : (W.setCells g 0 vs).heap.size = W.heap.size) (hg : w.heap.size + 1 < g) : SmB w a0 a1 A0 A1 n c0 c1 (W.setCells g 0 vs) :=
  ⟨(hf _ (by omega)).trans h.b1, (hf _ (by omega)).trans h.b2, below_setCells2_ (by omega) vs 0 h.b⟩
theorem SmB.start (w : World) (a0 a1 : Int) (A0 A1 : Option Addr) (n c0 c1 : Nat) : SmB w a0 a1 A0 A1 n c0 c1 ((w.alloc (.cells #[.int .i64 a0, .int .i64 a1, .slice A0 n c0] 27)).alloc (.cells #[.int .i64 a0, .int .i64 a1, .slice A1 n c1] 27)) := by
  refine ⟨blk_alloc (blk_new w _) _, ?_, below_alloc (below_alloc (Below.refl _ _) _) _⟩
  have h := blk_new (w.alloc (.cells #[.int .i64 a0, .int .i64 a1, .slice A0 n c0] 27)) (.cells #[.int .i64 a0, .int .i64 a1, .slice A1 n c1] 27)
  simp only [World.size_alloc] at h
  exact h
theorem sameS_l0 {a : List Int} (hb : a.length ≤ 9223372036854775807) (d : Nat) : ∀ (k : Nat) (i : Int), 0 ≤ i → (a.length : Int) - i = d → d < k → aviaryref08_Same.l0 k a a i = some true := by
  induction d with
  | zero =>
    intro k i h0 hd hk
    obtain ⟨k, rfl⟩ : ∃ m, k = m + 1 := ⟨k - 1, by omega⟩
    simp only [aviaryref08_Same.l0]
    rw [if_neg (by omega)]
  | succ d ih =>
    intro k i h0 hd hk
    obtain ⟨k, rfl⟩ : ∃ m, k = m + 1 := ⟨k - 1, by omega⟩
    simp only [aviaryref08_Same.l0]
    rw [if_pos (by omega), if_pos h0, if_pos (by omega), show wrap64 (i + 1) = i + 1 by unfold wrap64; omega]
    simp only [if_true]
    exact ih k (i + 1) (by omega) (by omega) (by omega)
theorem sameS {a : List Int} (hb : a.length ≤ 9223372036854775807) : aviaryref08_Same.f (a.length + 1) a a = some true := by
  unfold aviaryref08_Same.f
  rw [if_pos rfl]
  exact sameS_l0 hb a.length _ 0 (by omega) (by omega) (by omega)
def eqL59 (l m : List S59) : Bool := decide (l.map (·.f0) = m.map (·.f0)) && (decide (l.map (·.f1) = m.map (·.f1)) && (decide (l.map (·.f2) = m.map (·.f2)) && decide (l.map (·.f3) = m.map (·.f3))))
theorem eqL59_eq : ∀ {l m : List S59}, eqL59 l m = true → l = m
  | [], [], _ => rfl
  | [], b :: m, h => by simp [eqL59] at h
  | a :: l, [], h => by simp [eqL59] at h
  | ⟨a0, a1, a2, a3⟩ :: l, ⟨b0, b1, b2, b3⟩ :: m, h => by
    simp only [eqL59, Bool.and_eq_true, decide_eq_true_eq, List.map_cons, List.cons.injEq] at h
    obtain ⟨⟨rfl, h0⟩, ⟨rfl, h1⟩, ⟨rfl, h2⟩, ⟨rfl, h3⟩⟩ := h
    rw [eqL59_eq (l := l) (m := m) (by simp [eqL59, h0, h1, h2, h3])]
theorem eqL59_refl (l : List S59) : eqL59 l l = true := by simp [eqL59]
/-- Told where the answer is yes alone. -/
def aviaryref10_Same.f (a0_0 : Int) (a0_1 : Int) (l0_2 : List (S59)) (a1_0 : Int) (a1_1 : Int) (l1_2 : List (S59)) : Option (Bool) := if a0_0 = a1_0 ∧ a0_1 = a1_1 ∧ eqL59 l0_2 l1_2 = true then some true else none
set_option maxHeartbeats 8000000 in
set_option maxRecDepth 100000 in
theorem aviaryref10_Same.calls (a0_0 : Int) (a0_1 : Int) (A0_2 : Option Addr) (c0_2 : Nat) (l0_2 : List (S59)) (a1_0 : Int) (a1_1 : Int) (A1_2 : Option Addr) (c1_2 : Nat) (l1_2 : List (S59)) (r : Bool) (w : World) (hr0_2 : Kd.C k59 w A0_2 l0_2.length l0_2) (hc0_2 : l0_2.length ≤ c0_2) (hr1_2 : Kd.C k59 w A1_2 l1_2.length l1_2) (hc1_2 : l1_2.length ≤ c1_2) (h : aviaryref10_Same.f a0_0 a0_1 l0_2 a1_0 a1_1 l1_2 = some r) :
    Calls Try.prog 12 #[.agg #[.int .i64 a0_0, .int .i64 a0_1, .slice A0_2 l0_2.length c0_2], .agg #[.int .i64 a1_0, .int .i64 a1_1, .slice A1_2 l1_2.length c1_2]] w fun e w' => e = .returned (.bool r) ∧ Below w.heap.size w w' := by
  have hu27 := Try.underlying27
  have hu25 := Try.underlying25
  have hu59 := Try.underlying59
  unfold aviaryref10_Same.f at h
  by_cases hcond : a0_0 = a1_0 ∧ a0_1 = a1_1 ∧ eqL59 l0_2 l1_2 = true
  · rw [if_pos hcond] at h
    obtain rfl := Option.some.inj h
    obtain ⟨rfl, rfl, hl⟩ := hcond
    obtain rfl := eqL59_eq hl
    clear h hl
    have HR := Aside0.mk hr0_2
    have HS := Aside0.mk hr1_2
    clear hr0_2 hc0_2 hr1_2 hc1_2
    have HB := Aside0.mk (SmB.start w a0_0 a0_1 A0_2 A1_2 l0_2.length c0_2 c1_2)
    have HT_ := Aside0.mk aviaryref10_Same.tab6
    have HW_ := Aside0.mk aviaryref10_Same.bits6
    go_enter Try.func12, Try.ntmps12
    go_wp2
    go_loopg [5] l0_2.length (fun kq v5 wr => ∃ i : Nat, v5 = .int .i64 (i : Int) ∧ i + kq = l0_2.length ∧ Aside0 (SmB w a0_0 a0_1 A0_2 A1_2 l0_2.length c0_2 c1_2 wr))
    case atStart => exact ⟨0, rfl, by omega, HB⟩
    case round =>
      clear HB
      obtain ⟨i, rfl, hik, HB⟩ := hrel
      have ha2 : wr.cell? ⟨w.heap.size, 2, none⟩ = some (.slice A0_2 l0_2.length c0_2) := (blk_cell HB.out.b1 2).trans rfl
      have hlen : (l0_2.length : Int) ≤ 9223372036854775807 := by have := HR.out.2.1; omega
      by_cases ci : i < l0_2.length
      · have cb : decide ((i : Int) < (l0_2.length : Int)) = true := decide_eq_true (by omega)
        have cp := eq_true (show 0 ≤ (i : Int) by omega)
        have cq := eq_true (show (i : Int) < (l0_2.length : Int) by omega)
        obtain ⟨ad0, B0, d0, B1, d1, B2, d2, B3, d3, e0_, hx0, hx1, hx2, hx3, q0, hy0, q1, hy1, q2, hy2, q3, hy3⟩ := at_T59 HR.out (i : Int) (by omega) (by omega)
        obtain ⟨ad1, D0, e0, D1, e1, D2, e2, D3, e3, e1_, hz0, hz1, hz2, hz3, p0, hw0, p1, hw1, p2, hw2, p3, hw3⟩ := at_T59 HS.out (i : Int) (by omega) (by omega)
        subst e0_ e1_
        rw [Int.toNat_natCast] at hx0 hx1 hx2 hx3 hz0 hz1 hz2 hz3
        generalize rd_T59 l0_2 (i : Int) = G at *
        have HX := Aside0.mk (And.intro hx0 (And.intro hx1 (And.intro hx2 hx3)))
        have HY := Aside0.mk (And.intro hz0 (And.intro hz1 (And.intro hz2 hz3)))
        have HQ0 : Aside0 (G.f0.length ≤ 9223372036854775807) := ⟨hy0.2.1⟩
        have HQ1 : Aside0 (G.f1.length ≤ 9223372036854775807) := ⟨hy1.2.1⟩
        have HQ2 : Aside0 (G.f2.length ≤ 9223372036854775807) := ⟨hy2.2.1⟩
        have HQ3 : Aside0 (G.f3.length ≤ 9223372036854775807) := ⟨hy3.2.1⟩
        have HP0 := Aside0.mk (And.intro hy0 (And.intro q0 (And.intro hw0 p0)))
        have HP1 := Aside0.mk (And.intro hy1 (And.intro q1 (And.intro hw1 p1)))
        have HP2 := Aside0.mk (And.intro hy2 (And.intro q2 (And.intro hw2 p2)))
        have HP3 := Aside0.mk (And.intro hy3 (And.intro q3 (And.intro hw3 p3)))
        clear hx0 hx1 hx2 hx3 hz0 hz1 hz2 hz3 hy0 hy1 hy2 hy3 hw0 hw1 hw2 hw3 q0 q1 q2 q3 p0 p1 p2 p3
        go_wp2
        have HB1 : Aside0 (SmB w a0_0 a0_1 (some ad0) (some ad1) l0_2.length c0_2 c1_2 wr.drew) := ⟨⟨HB.out.b1, HB.out.b2, below_drew1 HB.out.b⟩⟩
        have NN : Aside0 (w.heap.size ≠ w.heap.size + 1 ∧ w.heap.size < wr.drew.heap.size ∧ w.heap.size + 1 < wr.drew.heap.size) := ⟨⟨by omega, blk_lt HB.out.b1, blk_lt HB.out.b2⟩⟩
        clear HB ha2
        have HB := HB1
        clear HB1
        refine start_ (n := 14) (S := fun w' => True) (ds := []) #[false, false, false, false, false, false, false, false, false, false, false, false, false, false] (by kernel_rfl) rfl rfl trivial (fun hHeld => ?_)
        refine pure_ (i := 0) (N := some 36) (v := ?_) (a' := ?_) #[true, false, false, false, false, false, false, false, false, false, false, false, false, false] rfl rfl (by kernel_rfl) (fun _ _ _ h => h) (Or.inl ⟨by rfl, ?_⟩) ?_ ?_
        rotate_left
        · intro w'
          go_simp
          with_reducible rfl
        rotate_left
        · simp only [Act.put, List.setIfInBounds_toArray, List.set_cons_zero, List.set_cons_succ, i64_w, i32_w]
          rfl
        refine pure_ (i := 2) (N := some 38) (v := ?_) (a' := ?_) #[true, false, true, false, false, false, false, false, false, false, false, false, false, false] rfl rfl (by kernel_rfl) (fun _ _ _ h => h) (Or.inl ⟨by rfl, ?_⟩) ?_ ?_
        rotate_left
        · intro w'
          go_simp
          with_reducible rfl
        rotate_left
        · simp only [Act.put, List.setIfInBounds_toArray, List.set_cons_zero, List.set_cons_succ, i64_w, i32_w]
          rfl
        refine pure_ (i := 5) (N := some 41) (v := ?_) (a' := ?_) #[true, false, true, false, false, true, false, false, false, false, false, false, false, false] rfl rfl (by kernel_rfl) (fun _ _ _ h => h) (Or.inl ⟨by rfl, ?_⟩) ?_ ?_
        rotate_left
        · intro w'
          go_simp
          with_reducible rfl
        rotate_left
        · simp only [Act.put, List.setIfInBounds_toArray, List.set_cons_zero, List.set_cons_succ, i64_w, i32_w]
          rfl
        refine pure_ (i := 7) (N := some 43) (v := ?_) (a' := ?_) #[true, false, true, false, false, true, false, true, false, false, false, false, false, false] rfl rfl (by kernel_rfl) (fun _ _ _ h => h) (Or.inl ⟨by rfl, ?_⟩) ?_ ?_
        rotate_left
        · intro w'
          go_simp
          with_reducible rfl
        rotate_left
        · simp only [Act.put, List.setIfInBounds_toArray, List.set_cons_zero, List.set_cons_succ, i64_w, i32_w]
          rfl
        refine inv_at [1, 3, 4, 6, 8, 9, 10, 11, 12, 13] (fun a0_ b a w' => ∃ (g6_ : Nat) (g7_ : Nat) (m10_ : Value) (m11_ : Value), a = putSel a0_ b [(1, 37, .slice (some ad0) l0_2.length c0_2), (3, 39, .pointer (some (ad0.add (i * 4)))), (4, 40, .agg #[.slice B0 G.f0.length d0, .slice B1 G.f1.length d1, .slice B2 G.f2.length d2, .slice B3 G.f3.length d3]), (6, 42, .slice (some ad1) l0_2.length c1_2), (8, 44, .pointer (some (ad1.add (i * 4)))), (9, 45, .agg #[.slice D0 G.f0.length e0, .slice D1 G.f1.length e1, .slice D2 G.f2.length e2, .slice D3 G.f3.length e3]), (10, 6, m10_), (11, 7, m11_)] ∧ (SmB w a0_0 a0_1 (some ad0) (some ad1) l0_2.length c0_2 c1_2 w') ∧ (b 10 = true → b 12 = false → w'.heap[g6_]? = some (.cells #[.slice none 0 0, .slice none 0 0, .slice none 0 0, .slice none 0 0] 59 (0, 0)) ∧ w.heap.size + 1 < g6_) ∧ (b 11 = true → b 13 = false → w'.heap[g7_]? = some (.cells #[.slice none 0 0, .slice none 0 0, .slice none 0 0, .slice none 0 0] 59 (0, 0)) ∧ w.heap.size + 1 < g7_) ∧ (g6_ ≠ g7_ ∧ g6_ < w'.heap.size ∧ g7_ < w'.heap.size) ∧ (b 12 = true → w'.heap[g6_]? = some (.cells #[.slice B0 G.f0.length d0, .slice B1 G.f1.length d1, .slice B2 G.f2.length d2, .slice B3 G.f3.length d3] 59 (0, 0)) ∧ w.heap.size + 1 < g6_) ∧ (b 13 = true → w'.heap[g7_]? = some (.cells #[.slice D0 G.f0.length e0, .slice D1 G.f1.length e1, .slice D2 G.f2.length e2, .slice D3 G.f3.length e3] 59 (0, 0)) ∧ w.heap.size + 1 < g7_) ∧ (b 10 = true → (m10_ : Value) = .pointer (some ⟨g6_, 0, none⟩)) ∧ (b 11 = true → (m11_ : Value) = .pointer (some ⟨g7_, 0, none⟩))) HT_.out HW_.out (by kernel_rfl) (by kernel_rfl) ?_ ?_ ?_
        · exact ⟨w.heap.size, (w.heap.size + 1), .bool false, .bool false, by simp only [putSel, Bool.false_eq_true, if_false], HB.out, fun h_ => absurd h_ (by decide), fun h_ => absurd h_ (by decide), NN.out, fun h_ => absurd h_ (by decide), fun h_ => absurd h_ (by decide), fun h_ => absurd h_ (by decide), fun h_ => absurd h_ (by decide)⟩
        · skip
          clear HB NN
          refine steps_cons ?_ ?_
          · rintro b a w' ⟨g6_, g7_, m10_, m11_, ha, Q_HB, Q_Z6, Q_Z7, Q_NN, Q_K6, Q_K7, Q_X10_, Q_X11_⟩ hb_ hon hoff
            refine ⟨_, rfl, fun K hK => ?_⟩
            have e36 : a.tmps[36]? = some (.pointer (some ⟨w.heap.size, 2, none⟩)) := by rw [ha]; exact (putSel_off rfl).trans rfl
            replace ha := Aside0.mk ha
            have HB := Aside0.mk Q_HB
            have NN := Aside0.mk Q_NN
            have hx_ := (blk_cell HB.out.b1 2).trans rfl
            refine value_ (w1 := w') (v := .slice (some ad0) l0_2.length c0_2) (by rfl) rfl ?_ ?_
            · go_simp
              (try simp only [i64_w])
              try rfl
            refine hK.out _ _ ⟨g6_, g7_, m10_, m11_, (by rw [ha.out]; exact putSel_upk 0 hb_ rfl rfl rfl), Q_HB, Q_Z6, Q_Z7, Q_NN, fun h0_ => absurd ((hoff 12 (by kernel_rfl)).symm.trans h0_) (by decide), fun h0_ => absurd ((hoff 13 (by kernel_rfl)).symm.trans h0_) (by decide), Q_X10_, Q_X11_⟩
          refine steps_cons ?_ ?_
          · rintro b a w' ⟨g6_, g7_, m10_, m11_, ha, Q_HB, Q_Z6, Q_Z7, Q_NN, Q_K6, Q_K7, Q_X10_, Q_X11_⟩ hb_ hon hoff
            refine ⟨_, rfl, fun K hK => ?_⟩
            have e37 : a.tmps[37]? = some (.slice (some ad0) l0_2.length c0_2) := by rw [ha]; exact putSel_on (e := (1, 37, .slice (some ad0) l0_2.length c0_2)) 0 rfl rfl (hon 1 (by kernel_rfl)) rfl
            have e38 : a.tmps[38]? = some (.int .i64 (i : Int)) := by rw [ha]; exact (putSel_off rfl).trans rfl
            replace ha := Aside0.mk ha
            have HB := Aside0.mk Q_HB
            have NN := Aside0.mk Q_NN
            refine value_ (w1 := w') (v := .pointer (some (ad0.add (i * 4)))) (by rfl) rfl ?_ ?_
            · go_simp
              (try simp only [i64_w])
              try rfl
            refine hK.out _ _ ⟨g6_, g7_, m10_, m11_, (by rw [ha.out]; exact putSel_upk 1 hb_ rfl rfl rfl), Q_HB, Q_Z6, Q_Z7, Q_NN, fun h0_ => absurd ((hoff 12 (by kernel_rfl)).symm.trans h0_) (by decide), fun h0_ => absurd ((hoff 13 (by kernel_rfl)).symm.trans h0_) (by decide), Q_X10_, Q_X11_⟩
          refine steps_cons ?_ ?_
          · rintro b a w' ⟨g6_, g7_, m10_, m11_, ha, Q_HB, Q_Z6, Q_Z7, Q_NN, Q_K6, Q_K7, Q_X10_, Q_X11_⟩ hb_ hon hoff
            refine ⟨_, rfl, fun K hK => ?_⟩
            have e39 : a.tmps[39]? = some (.pointer (some (ad0.add (i * 4)))) := by rw [ha]; exact putSel_on (e := (3, 39, .pointer (some (ad0.add (i * 4))))) 1 rfl rfl (hon 3 (by kernel_rfl)) rfl
            replace ha := Aside0.mk ha
            have HB := Aside0.mk Q_HB
            have NN := Aside0.mk Q_NN
            have hx0_ := (HB.out.b.cell (World.block_lt_of_cell? w _ HX.out.1)).trans HX.out.1
            have hx1_ := (HB.out.b.cell (World.block_lt_of_cell? w _ HX.out.2.1)).trans HX.out.2.1
            have hx2_ := (HB.out.b.cell (World.block_lt_of_cell? w _ HX.out.2.2.1)).trans HX.out.2.2.1
            have hx3_ := (HB.out.b.cell (World.block_lt_of_cell? w _ HX.out.2.2.2)).trans HX.out.2.2.2
            refine value_ (w1 := w') (v := .agg #[.slice B0 G.f0.length d0, .slice B1 G.f1.length d1, .slice B2 G.f2.length d2, .slice B3 G.f3.length d3]) (by rfl) rfl ?_ ?_
            · go_simp
              (try simp only [i64_w])
              try rfl
            refine hK.out _ _ ⟨g6_, g7_, m10_, m11_, (by rw [ha.out]; exact putSel_upk 2 hb_ rfl rfl rfl), Q_HB, Q_Z6, Q_Z7, Q_NN, fun h0_ => absurd ((hoff 12 (by kernel_rfl)).symm.trans h0_) (by decide), fun h0_ => absurd ((hoff 13 (by kernel_rfl)).symm.trans h0_) (by decide), Q_X10_, Q_X11_⟩
          refine steps_cons ?_ ?_
          · rintro b a w' ⟨g6_, g7_, m10_, m11_, ha, Q_HB, Q_Z6, Q_Z7, Q_NN, Q_K6, Q_K7, Q_X10_, Q_X11_⟩ hb_ hon hoff
            refine ⟨_, rfl, fun K hK => ?_⟩
            have e41 : a.tmps[41]? = some (.pointer (some ⟨w.heap.size + 1, 2, none⟩)) := by rw [ha]; exact (putSel_off rfl).trans rfl
            replace ha := Aside0.mk ha
            have HB := Aside0.mk Q_HB
            have NN := Aside0.mk Q_NN
            have hx_ := (blk_cell HB.out.b2 2).trans rfl
            refine value_ (w1 := w') (v := .slice (some ad1) l0_2.length c1_2) (by rfl) rfl ?_ ?_
            · go_simp
              (try simp only [i64_w])
              try rfl
            refine hK.out _ _ ⟨g6_, g7_, m10_, m11_, (by rw [ha.out]; exact putSel_upk 3 hb_ rfl rfl rfl), Q_HB, Q_Z6, Q_Z7, Q_NN, Q_K6, fun h0_ => absurd ((hoff 13 (by kernel_rfl)).symm.trans h0_) (by decide), Q_X10_, Q_X11_⟩
          refine steps_cons ?_ ?_
          · rintro b a w' ⟨g6_, g7_, m10_, m11_, ha, Q_HB, Q_Z6, Q_Z7, Q_NN, Q_K6, Q_K7, Q_X10_, Q_X11_⟩ hb_ hon hoff
            refine ⟨_, rfl, fun K hK => ?_⟩
            have e42 : a.tmps[42]? = some (.slice (some ad1) l0_2.length c1_2) := by rw [ha]; exact putSel_on (e := (6, 42, .slice (some ad1) l0_2.length c1_2)) 3 rfl rfl (hon 6 (by kernel_rfl)) rfl
            have e43 : a.tmps[43]? = some (.int .i64 (i : Int)) := by rw [ha]; exact (putSel_off rfl).trans rfl
            replace ha := Aside0.mk ha
            have HB := Aside0.mk Q_HB
            have NN := Aside0.mk Q_NN
            refine value_ (w1 := w') (v := .pointer (some (ad1.add (i * 4)))) (by rfl) rfl ?_ ?_
            · go_simp
              (try simp only [i64_w])
              try rfl
            refine hK.out _ _ ⟨g6_, g7_, m10_, m11_, (by rw [ha.out]; exact putSel_upk 4 hb_ rfl rfl rfl), Q_HB, Q_Z6, Q_Z7, Q_NN, Q_K6, fun h0_ => absurd ((hoff 13 (by kernel_rfl)).symm.trans h0_) (by decide), Q_X10_, Q_X11_⟩
          refine steps_cons ?_ ?_
          · rintro b a w' ⟨g6_, g7_, m10_, m11_, ha, Q_HB, Q_Z6, Q_Z7, Q_NN, Q_K6, Q_K7, Q_X10_, Q_X11_⟩ hb_ hon hoff
            refine ⟨_, rfl, fun K hK => ?_⟩
            have e44 : a.tmps[44]? = some (.pointer (some (ad1.add (i * 4)))) := by rw [ha]; exact putSel_on (e := (8, 44, .pointer (some (ad1.add (i * 4))))) 4 rfl rfl (hon 8 (by kernel_rfl)) rfl
            replace ha := Aside0.mk ha
            have HB := Aside0.mk Q_HB
            have NN := Aside0.mk Q_NN
            have hx0_ := (HB.out.b.cell (World.block_lt_of_cell? w _ HY.out.1)).trans HY.out.1
            have hx1_ := (HB.out.b.cell (World.block_lt_of_cell? w _ HY.out.2.1)).trans HY.out.2.1
            have hx2_ := (HB.out.b.cell (World.block_lt_of_cell? w _ HY.out.2.2.1)).trans HY.out.2.2.1
            have hx3_ := (HB.out.b.cell (World.block_lt_of_cell? w _ HY.out.2.2.2)).trans HY.out.2.2.2
            refine value_ (w1 := w') (v := .agg #[.slice D0 G.f0.length e0, .slice D1 G.f1.length e1, .slice D2 G.f2.length e2, .slice D3 G.f3.length e3]) (by rfl) rfl ?_ ?_
            · go_simp
              (try simp only [i64_w])
              try rfl
            refine hK.out _ _ ⟨g6_, g7_, m10_, m11_, (by rw [ha.out]; exact putSel_upk 5 hb_ rfl rfl rfl), Q_HB, Q_Z6, Q_Z7, Q_NN, Q_K6, fun h0_ => absurd ((hoff 13 (by kernel_rfl)).symm.trans h0_) (by decide), Q_X10_, Q_X11_⟩
          refine steps_cons ?_ ?_
          · rintro b a w' ⟨g6_, g7_, m10_, m11_, ha, Q_HB, Q_Z6, Q_Z7, Q_NN, Q_K6, Q_K7, Q_X10_, Q_X11_⟩ hb_ hon hoff
            refine ⟨_, rfl, fun K hK => ?_⟩
            replace ha := Aside0.mk ha
            have HB := Aside0.mk Q_HB
            have NN := Aside0.mk Q_NN
            have hlt : w.heap.size + 1 < w'.heap.size := blk_lt HB.out.b2
            have hb : Below w'.heap.size w' (w'.alloc (.cells #[.slice none 0 0, .slice none 0 0, .slice none 0 0, .slice none 0 0] 59)) := below_alloc (Below.refl _ _) _
            refine value_ (w1 := w'.alloc (.cells #[.slice none 0 0, .slice none 0 0, .slice none 0 0, .slice none 0 0] 59)) (v := .pointer (some ⟨w'.heap.size, 0, none⟩)) (by rfl) rfl (by first | (go_simp; done) | (go_simp; rfl)) ?_
            refine hK.out _ _ ⟨w'.heap.size, g7_, (.pointer (some ⟨w'.heap.size, 0, none⟩)), m11_, (by rw [ha.out]; exact putSel_upk 6 hb_ rfl rfl rfl), HB.out.below hb, fun _ _ => ⟨blk_new w' _, hlt⟩, fun h0_ h1_ => ⟨blk_below (Q_Z7 h0_ h1_).1 hb, (Q_Z7 h0_ h1_).2⟩, ⟨Nat.ne_of_gt NN.out.2.2, by simp, by have := NN.out.2.2; simp; omega⟩, fun h0_ => absurd ((hoff 12 (by kernel_rfl)).symm.trans h0_) (by decide), fun h0_ => absurd ((hoff 13 (by kernel_rfl)).symm.trans h0_) (by decide), fun _ => rfl, Q_X11_⟩
          refine steps_cons ?_ ?_
          · rintro b a w' ⟨g6_, g7_, m10_, m11_, ha, Q_HB, Q_Z6, Q_Z7, Q_NN, Q_K6, Q_K7, Q_X10_, Q_X11_⟩ hb_ hon hoff
            refine ⟨_, rfl, fun K hK => ?_⟩
            replace ha := Aside0.mk ha
            have HB := Aside0.mk Q_HB
            have NN := Aside0.mk Q_NN
            have hlt : w.heap.size + 1 < w'.heap.size := blk_lt HB.out.b2
            have hb : Below w'.heap.size w' (w'.alloc (.cells #[.slice none 0 0, .slice none 0 0, .slice none 0 0, .slice none 0 0] 59)) := below_alloc (Below.refl _ _) _
            refine value_ (w1 := w'.alloc (.cells #[.slice none 0 0, .slice none 0 0, .slice none 0 0, .slice none 0 0] 59)) (v := .pointer (some ⟨w'.heap.size, 0, none⟩)) (by rfl) rfl (by first | (go_simp; done) | (go_simp; rfl)) ?_
            refine hK.out _ _ ⟨g6_, w'.heap.size, m10_, (.pointer (some ⟨w'.heap.size, 0, none⟩)), (by rw [ha.out]; exact putSel_upk 7 hb_ rfl rfl rfl), HB.out.below hb, fun h0_ h1_ => ⟨blk_below (Q_Z6 h0_ h1_).1 hb, (Q_Z6 h0_ h1_).2⟩, fun _ _ => ⟨blk_new w' _, hlt⟩, ⟨Nat.ne_of_lt NN.out.2.1, by have := NN.out.2.1; simp; omega, by simp⟩, fun h0_ => absurd ((hoff 12 (by kernel_rfl)).symm.trans h0_) (by decide), fun h0_ => absurd ((hoff 13 (by kernel_rfl)).symm.trans h0_) (by decide), Q_X10_, fun _ => rfl⟩
          refine steps_cons ?_ ?_
          · rintro b a w' ⟨g6_, g7_, m10_, m11_, ha, Q_HB, Q_Z6, Q_Z7, Q_NN, Q_K6, Q_K7, Q_X10_, Q_X11_⟩ hb_ hon hoff
            refine ⟨_, rfl, fun K hK => ?_⟩
            have e6 : a.tmps[6]? = some (m10_) := by rw [ha]; exact putSel_on (e := (10, 6, m10_)) 6 rfl rfl (hon 10 (by kernel_rfl)) rfl
            rw [Q_X10_ (hon 10 (by kernel_rfl))] at e6
            have e40 : a.tmps[40]? = some (.agg #[.slice B0 G.f0.length d0, .slice B1 G.f1.length d1, .slice B2 G.f2.length d2, .slice B3 G.f3.length d3]) := by rw [ha]; exact putSel_on (e := (4, 40, .agg #[.slice B0 G.f0.length d0, .slice B1 G.f1.length d1, .slice B2 G.f2.length d2, .slice B3 G.f3.length d3])) 2 rfl rfl (hon 4 (by kernel_rfl)) rfl
            replace ha := Aside0.mk ha
            have HB := Aside0.mk Q_HB
            have Z6 := Aside0.mk (Q_Z6 (hon 10 (by kernel_rfl)) hb_)
            have Z7 := Aside0.mk (Q_Z7 (hon 11 (by kernel_rfl)) (hoff 13 (by kernel_rfl)))
            have NN := Aside0.mk Q_NN
            obtain ⟨hst, hs2, hs3, hs4⟩ := store_blk (P := Try.prog) (t := 59) [.slice B0 G.f0.length d0, .slice B1 G.f1.length d1, .slice B2 G.f2.length d2, .slice B3 G.f3.length d3] Z6.out.1 (by kernel_rfl) rfl (by simp [Value.oneCell'])
            refine skip_ (w1 := w'.setCells g6_ 0 [.slice B0 G.f0.length d0, .slice B1 G.f1.length d1, .slice B2 G.f2.length d2, .slice B3 G.f3.length d3]) (by rfl) rfl (by simp [execOp, Act.eval, Array.getD_eq_getD_getElem?, e6, e40, hst]) ?_
            refine hK.out _ _ ⟨g6_, g7_, m10_, m11_, (by rw [ha.out]; exact putSel_none (v := undef) rfl), HB.out.far hs3 hs4 (by have := Z6.out.2; omega), fun _ h1_ => absurd ((up_self b 12).symm.trans h1_) (by decide), fun _ _ => ⟨(hs3 _ (Ne.symm NN.out.1)).trans Z7.out.1, Z7.out.2⟩, ⟨NN.out.1, hs4.symm ▸ NN.out.2.1, hs4.symm ▸ NN.out.2.2⟩, fun _ => ⟨hs2, Z6.out.2⟩, fun h0_ => absurd ((hoff 13 (by kernel_rfl)).symm.trans h0_) (by decide), Q_X10_, Q_X11_⟩
          refine steps_cons ?_ ?_
          · rintro b a w' ⟨g6_, g7_, m10_, m11_, ha, Q_HB, Q_Z6, Q_Z7, Q_NN, Q_K6, Q_K7, Q_X10_, Q_X11_⟩ hb_ hon hoff
            refine ⟨_, rfl, fun K hK => ?_⟩
            have e7 : a.tmps[7]? = some (m11_) := by rw [ha]; exact putSel_on (e := (11, 7, m11_)) 7 rfl rfl (hon 11 (by kernel_rfl)) rfl
            rw [Q_X11_ (hon 11 (by kernel_rfl))] at e7
            have e45 : a.tmps[45]? = some (.agg #[.slice D0 G.f0.length e0, .slice D1 G.f1.length e1, .slice D2 G.f2.length e2, .slice D3 G.f3.length e3]) := by rw [ha]; exact putSel_on (e := (9, 45, .agg #[.slice D0 G.f0.length e0, .slice D1 G.f1.length e1, .slice D2 G.f2.length e2, .slice D3 G.f3.length e3])) 5 rfl rfl (hon 9 (by kernel_rfl)) rfl
            replace ha := Aside0.mk ha
            have HB := Aside0.mk Q_HB
            have Z7 := Aside0.mk (Q_Z7 (hon 11 (by kernel_rfl)) hb_)
            have NN := Aside0.mk Q_NN
            have K6 := Aside0.mk (Q_K6 (hon 12 (by kernel_rfl)))
            obtain ⟨hst, hs2, hs3, hs4⟩ := store_blk (P := Try.prog) (t := 59) [.slice D0 G.f0.length e0, .slice D1 G.f1.length e1, .slice D2 G.f2.length e2, .slice D3 G.f3.length e3] Z7.out.1 (by kernel_rfl) rfl (by simp [Value.oneCell'])
            refine skip_ (w1 := w'.setCells g7_ 0 [.slice D0 G.f0.length e0, .slice D1 G.f1.length e1, .slice D2 G.f2.length e2, .slice D3 G.f3.length e3]) (by rfl) rfl (by simp [execOp, Act.eval, Array.getD_eq_getD_getElem?, e7, e45, hst]) ?_
            refine hK.out _ _ ⟨g6_, g7_, m10_, m11_, (by rw [ha.out]; exact putSel_none (v := undef) rfl), HB.out.far hs3 hs4 (by have := Z7.out.2; omega), fun _ h1_ => absurd ((hon 12 (by kernel_rfl)).symm.trans h1_) (by decide), fun _ h1_ => absurd ((up_self b 13).symm.trans h1_) (by decide), ⟨NN.out.1, hs4.symm ▸ NN.out.2.1, hs4.symm ▸ NN.out.2.2⟩, fun _ => ⟨(hs3 _ NN.out.1).trans K6.out.1, K6.out.2⟩, fun _ => ⟨hs2, Z7.out.2⟩, Q_X10_, Q_X11_⟩
          exact steps_nil
        · rintro b a w' hall ⟨g6_, g7_, m10_, m11_, ha, Q_HB, Q_Z6, Q_Z7, Q_NN, Q_K6, Q_K7, Q_X10_, Q_X11_⟩
          clear HB NN
          have hb1_ := hall 1 (by kernel_rfl)
          have hb3_ := hall 3 (by kernel_rfl)
          have hb4_ := hall 4 (by kernel_rfl)
          have hb6_ := hall 6 (by kernel_rfl)
          have hb8_ := hall 8 (by kernel_rfl)
          have hb9_ := hall 9 (by kernel_rfl)
          have hb10_ := hall 10 (by kernel_rfl)
          have hb11_ := hall 11 (by kernel_rfl)
          have hb12_ := hall 12 (by kernel_rfl)
          have hb13_ := hall 13 (by kernel_rfl)
          subst ha
          obtain rfl := Q_X10_ hb10_
          obtain rfl := Q_X11_ hb11_
          simp only [putSel, hb1_, hb3_, hb4_, hb6_, hb8_, hb9_, hb10_, hb11_, hb12_, hb13_, if_true, Act.put, List.setIfInBounds_toArray, List.set_cons_zero, List.set_cons_succ]
          have HB := Aside0.mk Q_HB
          clear Q_HB
          clear Q_Z6
          clear Q_Z7
          have NN := Aside0.mk Q_NN
          clear Q_NN
          have K6 := Aside0.mk (Q_K6 hb12_)
          clear Q_K6
          have K7 := Aside0.mk (Q_K7 hb13_)
          clear Q_K7
          clear hall hb1_ hb3_ hb4_ hb6_ hb8_ hb9_ hb10_ hb11_ hb12_ hb13_
          have hs0 := (blk_cell K6.out.1 0).trans rfl
          have ht0 := (blk_cell K7.out.1 0).trans rfl
          have hs1 := (blk_cell K6.out.1 1).trans rfl
          have ht1 := (blk_cell K7.out.1 1).trans rfl
          have hs2 := (blk_cell K6.out.1 2).trans rfl
          have ht2 := (blk_cell K7.out.1 2).trans rfl
          have hs3 := (blk_cell K6.out.1 3).trans rfl
          have ht3 := (blk_cell K7.out.1 3).trans rfl
          go_wp2_with (first | (go_at_call 21; (with_reducible refine (aviaryref08_Same.calls (G.f0.length + 1) _ _ G.f0 _ _ G.f0 true _ (Kd.C_below HP0.out.1 (by repeat (first | exact HB.out.b | apply pw_below_drewN))) HP0.out.2.1 (Kd.C_below HP0.out.2.2.1 (by repeat (first | exact HB.out.b | apply pw_below_drewN))) HP0.out.2.2.2 (sameS HQ0.out)).mono ?_); rintro e w' ⟨rfl, ⟨nd, rfl⟩⟩) | (go_at_call 21; (with_reducible refine (aviaryref08_Same.calls (G.f1.length + 1) _ _ G.f1 _ _ G.f1 true _ (Kd.C_below HP1.out.1 (by repeat (first | exact HB.out.b | apply pw_below_drewN))) HP1.out.2.1 (Kd.C_below HP1.out.2.2.1 (by repeat (first | exact HB.out.b | apply pw_below_drewN))) HP1.out.2.2.2 (sameS HQ1.out)).mono ?_); rintro e w' ⟨rfl, ⟨nd, rfl⟩⟩) | (go_at_call 21; (with_reducible refine (aviaryref08_Same.calls (G.f2.length + 1) _ _ G.f2 _ _ G.f2 true _ (Kd.C_below HP2.out.1 (by repeat (first | exact HB.out.b | apply pw_below_drewN))) HP2.out.2.1 (Kd.C_below HP2.out.2.2.1 (by repeat (first | exact HB.out.b | apply pw_below_drewN))) HP2.out.2.2.2 (sameS HQ2.out)).mono ?_); rintro e w' ⟨rfl, ⟨nd, rfl⟩⟩) | (go_at_call 21; (with_reducible refine (aviaryref08_Same.calls (G.f3.length + 1) _ _ G.f3 _ _ G.f3 true _ (Kd.C_below HP3.out.1 (by repeat (first | exact HB.out.b | apply pw_below_drewN))) HP3.out.2.1 (Kd.C_below HP3.out.2.2.1 (by repeat (first | exact HB.out.b | apply pw_below_drewN))) HP3.out.2.2.2 (sameS HQ3.out)).mono ?_); rintro e w' ⟨rfl, ⟨nd, rfl⟩⟩))
          go_roundg (l0_2.length - i - 1)
          case measure => omega
          case rel => exact ⟨i + 1, by simp, by omega, ⟨HB.out.b1, HB.out.b2, (by repeat (first | exact HB.out.b | apply pw_below_drewN))⟩⟩
      · have cb : decide ((i : Int) < (l0_2.length : Int)) = false := decide_eq_false (by omega)
        go_wp2
        go_ret
        exact ⟨rfl, HB.out.b⟩
  · rw [if_neg hcond] at h
    exact absurd h (by simp)

end Go.Proofs.Ytekaiebfgcjddaa.PGraftBack
