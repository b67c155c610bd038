/- A text of the session: functions of the program and their walks, laid by a program of its own (wip/tools/mkprint.py) over the translation. No condition. -/
import Derived.Test.YtekaiebfgcjddaaPGraftShapesx0
import Derived.Test.YtekaiebfgcjddaaPGraftShapesx4
import Derived.Test.YtekaiebfgcjddaaPGraftShapesx5
namespace Go.Proofs.Ytekaiebfgcjddaa.PGraftShapes
open Go.RowKit Go.Proofs.YtekaiebfgcjddaaW.PrintWords Go.Proofs.YtekaiebfgcjddaaW.PrintLast Go.Proofs.YtekaiebfgcjddaaW.PrintMore
attribute [local go_sem] max2_int min2_int max_two min_two max_three min_three max_four min_four   -- for this text's walks alone
set_option linter.unusedVariables false
set_option linter.unusedSimpArgs false

/-! ### aviaryref10_ranges: function 30 -/
def aviaryref10_ranges.f (k : Nat) (a0 : Int) (a1 : Int) (a2_0 : Int) (a2_1 : Int) (a2_2 : Int) (a2_3 : Int) (a2_4 : Int) (a2_5 : Int) (a2_6 : Int) (a2_7 : Int) : Option (Bool) := (aviaryref09_Config.f k a2_0 a2_1 a2_2 a2_3 a2_4 a2_5 a2_6 a2_7).bind fun t126 => (if t126 = true then (if a0 ≥ 1 then (if a0 ≤ 4 then (if a1 ≥ 0 then (some (decide (a1 ≤ 8))) else (some false)) else (some false)) else (some false)) else (some false))
theorem aviaryref10_ranges.mono : ∀ a0 a1 a2 a3 a4 a5 a6 a7 a8 a9 k, LeO (aviaryref10_ranges.f k a0 a1 a2 a3 a4 a5 a6 a7 a8 a9) (aviaryref10_ranges.f (k + 1) a0 a1 a2 a3 a4 a5 a6 a7 a8 a9) := by
  intro a0 a1 a2 a3 a4 a5 a6 a7 a8 a9 k
  unfold aviaryref10_ranges.f
  repeat' first
      | (with_reducible exact aviaryref09_Config.mono _ _ _ _ _ _ _ _ _)
      | (with_reducible exact LeO.refl _)
      | (with_reducible exact LeO.none _)
      | (with_reducible refine LeO.ite ?_ ?_)
      | (with_reducible refine LeO.bind ?_ (fun _ => ?_))
      | exact aviaryref09_Config.mono _ _ _ _ _ _ _ _ _
      | exact LeO.none _
      | refine LeO.ite ?_ ?_
      | refine LeO.bind ?_ (fun _ => ?_)
set_option maxHeartbeats 8000000 in
set_option maxRecDepth 100000 in
theorem aviaryref10_ranges.calls (k : Nat) (a0 : Int) (a1 : Int) (a2_0 : Int) (a2_1 : Int) (a2_2 : Int) (a2_3 : Int) (a2_4 : Int) (a2_5 : Int) (a2_6 : Int) (a2_7 : Int) (r : Bool) (w : World) (h : aviaryref10_ranges.f k a0 a1 a2_0 a2_1 a2_2 a2_3 a2_4 a2_5 a2_6 a2_7 = some r) :
    Calls Try.prog 30 #[.int .i64 a0, .int .i64 a1, .agg #[.int .i64 a2_0, .int .i64 a2_1, .int .i64 a2_2, .int .i64 a2_3, .int .i64 a2_4, .int .i64 a2_5, .int .i64 a2_6, .int .i64 a2_7]] w fun e w' => e = .returned (.bool r) ∧ Below w.heap.size w w' := by
  have hu23 := Try.underlying23
  have HB := Aside0.mk (Below.refl w.heap.size w)
  have H : ((aviaryref09_Config.f k a2_0 a2_1 a2_2 a2_3 a2_4 a2_5 a2_6 a2_7).bind fun t126 => (if t126 = true then (if a0 ≥ 1 then (if a0 ≤ 4 then (if a1 ≥ 0 then (some (decide (a1 ≤ 8))) else (some false)) else (some false)) else (some false)) else (some false))) = some r := h
  clear h
  replace H := Option.bind_eq_some_iff.mp H
  obtain ⟨t126, A40, H⟩ := H
  replace H : (if t126 = true then (if a0 ≥ 1 then (if a0 ≤ 4 then (if a1 ≥ 0 then (some (decide (a1 ≤ 8))) else (some false)) else (some false)) else (some false)) else (some false)) = some r := H
  have A4 := Aside0.mk A40
  clear A40
  by_cases c5 : t126 = true
  · subst c5
    have H1 : (if a0 ≥ 1 then (if a0 ≤ 4 then (if a1 ≥ 0 then (some (decide (a1 ≤ 8))) else (some false)) else (some false)) else (some false)) = some r := by rw [if_pos rfl] at H; exact H
    clear H
    have H := H1
    clear H1
    by_cases c6 : a0 ≥ 1
    · rw [if_pos c6] at H
      have c6b0 : decide (1 ≤ a0) = true := decide_eq_true c6
      clear c6
      by_cases c7 : a0 ≤ 4
      · rw [if_pos c7] at H
        have c7b0 : decide (a0 ≤ 4) = true := decide_eq_true c7
        clear c7
        by_cases c8 : a1 ≥ 0
        · rw [if_pos c8] at H
          have c8b0 : decide (0 ≤ a1) = true := decide_eq_true c8
          clear c8
          obtain rfl := Option.some.inj H
          go_enter Try.func30, Try.ntmps30
          go_wp2_with (first | ((with_reducible refine gate_dst (N := 5) rfl ?_); refine box_event ?hg (N := 5) ?hd (cs := #[.int .i64 a2_0, .int .i64 a2_1, .int .i64 a2_2, .int .i64 a2_3, .int .i64 a2_4, .int .i64 a2_5, .int .i64 a2_6, .int .i64 a2_7]) (t := 23) ?hr ?_; (case hd => rfl); (case hg => rfl); (case hr => first | (go_simp; done) | (go_simp; rfl)); intro gb125 hg w9 hbox hb; have n0_ := Aside0.mk (below_step (by repeat (first | (with_reducible first | exact HB.out | apply below_alloc | apply pw_below_drewN | apply below_drew1) | exact HB.out)) hb); have n1_ := Aside0.mk (hbox); have n2_ := Aside0.mk ((by rw [hg]; exact (below_size (by repeat (first | (with_reducible first | exact HB.out | apply below_alloc | apply pw_below_drewN | apply below_drew1) | exact HB.out))) : w.heap.size ≤ gb125)); have n3_ := Aside0.mk ((by rw [hg]; exact (below_size (by repeat (first | (with_reducible first | exact HB.out | apply below_alloc | apply pw_below_drewN | apply below_drew1) | exact HB.out))) : w.heap.size ≤ gb125)); clear HB; have HB := n0_; have BK125 := n1_; have GW125 := n2_; have GE125 := n3_; clear n0_ n1_ n2_ n3_; clear hb hbox hg; have hcz10_0 : w9.cell? ⟨gb125, 0, none⟩ = some (.int .i64 a2_0) := (blk_cell BK125.out 0).trans rfl; have hcz10_1 : w9.cell? ⟨gb125, 1, none⟩ = some (.int .i64 a2_1) := (blk_cell BK125.out 1).trans rfl; have hcz10_2 : w9.cell? ⟨gb125, 2, none⟩ = some (.int .i64 a2_2) := (blk_cell BK125.out 2).trans rfl; have hcz10_3 : w9.cell? ⟨gb125, 3, none⟩ = some (.int .i64 a2_3) := (blk_cell BK125.out 3).trans rfl; have hcz10_4 : w9.cell? ⟨gb125, 4, none⟩ = some (.int .i64 a2_4) := (blk_cell BK125.out 4).trans rfl; have hcz10_5 : w9.cell? ⟨gb125, 5, none⟩ = some (.int .i64 a2_5) := (blk_cell BK125.out 5).trans rfl; have hcz10_6 : w9.cell? ⟨gb125, 6, none⟩ = some (.int .i64 a2_6) := (blk_cell BK125.out 6).trans rfl; have hcz10_7 : w9.cell? ⟨gb125, 7, none⟩ = some (.int .i64 a2_7) := (blk_cell BK125.out 7).trans rfl; have hfz10_0 := blk_frozen BK125.out 0; have hfz10_1 := blk_frozen BK125.out 1; have hfz10_2 := blk_frozen BK125.out 2; have hfz10_3 := blk_frozen BK125.out 3; have hfz10_4 := blk_frozen BK125.out 4; have hfz10_5 := blk_frozen BK125.out 5; have hfz10_6 := blk_frozen BK125.out 6; have hfz10_7 := blk_frozen BK125.out 7) | ((with_reducible refine gate_callee (f := 27) rfl ?_); refine goesL_ (some 8) rfl rfl Try.func27 (by kernel_rfl) rfl #[.agg #[.int .i64 a2_0, .int .i64 a2_1, .int .i64 a2_2, .int .i64 a2_3, .int .i64 a2_4, .int .i64 a2_5, .int .i64 a2_6, .int .i64 a2_7]] rfl (by (try simp only [List.map_toArray, List.map_cons, List.map_nil]); first | done | rfl | (simp only [List.length_drop, List.length_take]; rfl)) ?_; (with_reducible refine (aviaryref09_Config.calls k a2_0 a2_1 a2_2 a2_3 a2_4 a2_5 a2_6 a2_7 true _ A4.out).mono ?_); rintro e w11 ⟨rfl, hb⟩; refine ⟨_, rfl, ?_⟩; have n0_ := Aside0.mk (blk_below (g := gb125) (o := .cells #[.int .i64 a2_0, .int .i64 a2_1, .int .i64 a2_2, .int .i64 a2_3, .int .i64 a2_4, .int .i64 a2_5, .int .i64 a2_6, .int .i64 a2_7] 23 (0, 0)) (by (with_reducible repeat (first | refine blk_drewN ?_ _ | refine blk_drew ?_ | refine blk_alloc ?_ _)); exact BK125.out) hb); have n1_ := Aside0.mk (below_step (by repeat (first | (with_reducible first | exact HB.out | apply below_alloc | apply pw_below_drewN | apply below_drew1 | refine below_set ?_ GE125.out) | exact HB.out)) hb); clear BK125; clear HB; have BK125 := n0_; have HB := n1_; clear n0_ n1_; (try clear hb); (try clear hb2); (try clear hk); (try clear hi)))
          go_ret
          exact ⟨by first | rfl | (simp [errW_none, errW_some] <;> rfl) | (simp [*, errW_none, errW_some] <;> rfl), by repeat (first | (with_reducible first | exact HB.out | apply below_alloc | apply pw_below_drewN | apply below_drew1 | refine below_set ?_ GE125.out) | exact HB.out)⟩
        · rw [if_neg c8] at H
          have c8b0 : decide (0 ≤ a1) = false := decide_eq_false c8
          clear c8
          obtain rfl := Option.some.inj H
          go_enter Try.func30, Try.ntmps30
          go_wp2_with (first | ((with_reducible refine gate_dst (N := 5) rfl ?_); refine box_event ?hg (N := 5) ?hd (cs := #[.int .i64 a2_0, .int .i64 a2_1, .int .i64 a2_2, .int .i64 a2_3, .int .i64 a2_4, .int .i64 a2_5, .int .i64 a2_6, .int .i64 a2_7]) (t := 23) ?hr ?_; (case hd => rfl); (case hg => rfl); (case hr => first | (go_simp; done) | (go_simp; rfl)); intro gb125 hg w12 hbox hb; have n0_ := Aside0.mk (below_step (by repeat (first | (with_reducible first | exact HB.out | apply below_alloc | apply pw_below_drewN | apply below_drew1) | exact HB.out)) hb); have n1_ := Aside0.mk (hbox); have n2_ := Aside0.mk ((by rw [hg]; exact (below_size (by repeat (first | (with_reducible first | exact HB.out | apply below_alloc | apply pw_below_drewN | apply below_drew1) | exact HB.out))) : w.heap.size ≤ gb125)); have n3_ := Aside0.mk ((by rw [hg]; exact (below_size (by repeat (first | (with_reducible first | exact HB.out | apply below_alloc | apply pw_below_drewN | apply below_drew1) | exact HB.out))) : w.heap.size ≤ gb125)); clear HB; have HB := n0_; have BK125 := n1_; have GW125 := n2_; have GE125 := n3_; clear n0_ n1_ n2_ n3_; clear hb hbox hg; have hcz13_0 : w12.cell? ⟨gb125, 0, none⟩ = some (.int .i64 a2_0) := (blk_cell BK125.out 0).trans rfl; have hcz13_1 : w12.cell? ⟨gb125, 1, none⟩ = some (.int .i64 a2_1) := (blk_cell BK125.out 1).trans rfl; have hcz13_2 : w12.cell? ⟨gb125, 2, none⟩ = some (.int .i64 a2_2) := (blk_cell BK125.out 2).trans rfl; have hcz13_3 : w12.cell? ⟨gb125, 3, none⟩ = some (.int .i64 a2_3) := (blk_cell BK125.out 3).trans rfl; have hcz13_4 : w12.cell? ⟨gb125, 4, none⟩ = some (.int .i64 a2_4) := (blk_cell BK125.out 4).trans rfl; have hcz13_5 : w12.cell? ⟨gb125, 5, none⟩ = some (.int .i64 a2_5) := (blk_cell BK125.out 5).trans rfl; have hcz13_6 : w12.cell? ⟨gb125, 6, none⟩ = some (.int .i64 a2_6) := (blk_cell BK125.out 6).trans rfl; have hcz13_7 : w12.cell? ⟨gb125, 7, none⟩ = some (.int .i64 a2_7) := (blk_cell BK125.out 7).trans rfl; have hfz13_0 := blk_frozen BK125.out 0; have hfz13_1 := blk_frozen BK125.out 1; have hfz13_2 := blk_frozen BK125.out 2; have hfz13_3 := blk_frozen BK125.out 3; have hfz13_4 := blk_frozen BK125.out 4; have hfz13_5 := blk_frozen BK125.out 5; have hfz13_6 := blk_frozen BK125.out 6; have hfz13_7 := blk_frozen BK125.out 7) | ((with_reducible refine gate_callee (f := 27) rfl ?_); refine goesL_ (some 8) rfl rfl Try.func27 (by kernel_rfl) rfl #[.agg #[.int .i64 a2_0, .int .i64 a2_1, .int .i64 a2_2, .int .i64 a2_3, .int .i64 a2_4, .int .i64 a2_5, .int .i64 a2_6, .int .i64 a2_7]] rfl (by (try simp only [List.map_toArray, List.map_cons, List.map_nil]); first | done | rfl | (simp only [List.length_drop, List.length_take]; rfl)) ?_; (with_reducible refine (aviaryref09_Config.calls k a2_0 a2_1 a2_2 a2_3 a2_4 a2_5 a2_6 a2_7 true _ A4.out).mono ?_); rintro e w14 ⟨rfl, hb⟩; refine ⟨_, rfl, ?_⟩; have n0_ := Aside0.mk (blk_below (g := gb125) (o := .cells #[.int .i64 a2_0, .int .i64 a2_1, .int .i64 a2_2, .int .i64 a2_3, .int .i64 a2_4, .int .i64 a2_5, .int .i64 a2_6, .int .i64 a2_7] 23 (0, 0)) (by (with_reducible repeat (first | refine blk_drewN ?_ _ | refine blk_drew ?_ | refine blk_alloc ?_ _)); exact BK125.out) hb); have n1_ := Aside0.mk (below_step (by repeat (first | (with_reducible first | exact HB.out | apply below_alloc | apply pw_below_drewN | apply below_drew1 | refine below_set ?_ GE125.out) | exact HB.out)) hb); clear BK125; clear HB; have BK125 := n0_; have HB := n1_; clear n0_ n1_; (try clear hb); (try clear hb2); (try clear hk); (try clear hi)))
          go_ret
          exact ⟨by first | rfl | (simp [errW_none, errW_some] <;> rfl) | (simp [*, errW_none, errW_some] <;> rfl), by repeat (first | (with_reducible first | exact HB.out | apply below_alloc | apply pw_below_drewN | apply below_drew1 | refine below_set ?_ GE125.out) | exact HB.out)⟩
      · rw [if_neg c7] at H
        have c7b0 : decide (a0 ≤ 4) = false := decide_eq_false c7
        clear c7
        obtain rfl := Option.some.inj H
        go_enter Try.func30, Try.ntmps30
        go_wp2_with (first | ((with_reducible refine gate_dst (N := 5) rfl ?_); refine box_event ?hg (N := 5) ?hd (cs := #[.int .i64 a2_0, .int .i64 a2_1, .int .i64 a2_2, .int .i64 a2_3, .int .i64 a2_4, .int .i64 a2_5, .int .i64 a2_6, .int .i64 a2_7]) (t := 23) ?hr ?_; (case hd => rfl); (case hg => rfl); (case hr => first | (go_simp; done) | (go_simp; rfl)); intro gb125 hg w15 hbox hb; have n0_ := Aside0.mk (below_step (by repeat (first | (with_reducible first | exact HB.out | apply below_alloc | apply pw_below_drewN | apply below_drew1) | exact HB.out)) hb); have n1_ := Aside0.mk (hbox); have n2_ := Aside0.mk ((by rw [hg]; exact (below_size (by repeat (first | (with_reducible first | exact HB.out | apply below_alloc | apply pw_below_drewN | apply below_drew1) | exact HB.out))) : w.heap.size ≤ gb125)); have n3_ := Aside0.mk ((by rw [hg]; exact (below_size (by repeat (first | (with_reducible first | exact HB.out | apply below_alloc | apply pw_below_drewN | apply below_drew1) | exact HB.out))) : w.heap.size ≤ gb125)); clear HB; have HB := n0_; have BK125 := n1_; have GW125 := n2_; have GE125 := n3_; clear n0_ n1_ n2_ n3_; clear hb hbox hg; have hcz16_0 : w15.cell? ⟨gb125, 0, none⟩ = some (.int .i64 a2_0) := (blk_cell BK125.out 0).trans rfl; have hcz16_1 : w15.cell? ⟨gb125, 1, none⟩ = some (.int .i64 a2_1) := (blk_cell BK125.out 1).trans rfl; have hcz16_2 : w15.cell? ⟨gb125, 2, none⟩ = some (.int .i64 a2_2) := (blk_cell BK125.out 2).trans rfl; have hcz16_3 : w15.cell? ⟨gb125, 3, none⟩ = some (.int .i64 a2_3) := (blk_cell BK125.out 3).trans rfl; have hcz16_4 : w15.cell? ⟨gb125, 4, none⟩ = some (.int .i64 a2_4) := (blk_cell BK125.out 4).trans rfl; have hcz16_5 : w15.cell? ⟨gb125, 5, none⟩ = some (.int .i64 a2_5) := (blk_cell BK125.out 5).trans rfl; have hcz16_6 : w15.cell? ⟨gb125, 6, none⟩ = some (.int .i64 a2_6) := (blk_cell BK125.out 6).trans rfl; have hcz16_7 : w15.cell? ⟨gb125, 7, none⟩ = some (.int .i64 a2_7) := (blk_cell BK125.out 7).trans rfl; have hfz16_0 := blk_frozen BK125.out 0; have hfz16_1 := blk_frozen BK125.out 1; have hfz16_2 := blk_frozen BK125.out 2; have hfz16_3 := blk_frozen BK125.out 3; have hfz16_4 := blk_frozen BK125.out 4; have hfz16_5 := blk_frozen BK125.out 5; have hfz16_6 := blk_frozen BK125.out 6; have hfz16_7 := blk_frozen BK125.out 7) | ((with_reducible refine gate_callee (f := 27) rfl ?_); refine goesL_ (some 8) rfl rfl Try.func27 (by kernel_rfl) rfl #[.agg #[.int .i64 a2_0, .int .i64 a2_1, .int .i64 a2_2, .int .i64 a2_3, .int .i64 a2_4, .int .i64 a2_5, .int .i64 a2_6, .int .i64 a2_7]] rfl (by (try simp only [List.map_toArray, List.map_cons, List.map_nil]); first | done | rfl | (simp only [List.length_drop, List.length_take]; rfl)) ?_; (with_reducible refine (aviaryref09_Config.calls k a2_0 a2_1 a2_2 a2_3 a2_4 a2_5 a2_6 a2_7 true _ A4.out).mono ?_); rintro e w17 ⟨rfl, hb⟩; refine ⟨_, rfl, ?_⟩; have n0_ := Aside0.mk (blk_below (g := gb125) (o := .cells #[.int .i64 a2_0, .int .i64 a2_1, .int .i64 a2_2, .int .i64 a2_3, .int .i64 a2_4, .int .i64 a2_5, .int .i64 a2_6, .int .i64 a2_7] 23 (0, 0)) (by (with_reducible repeat (first | refine blk_drewN ?_ _ | refine blk_drew ?_ | refine blk_alloc ?_ _)); exact BK125.out) hb); have n1_ := Aside0.mk (below_step (by repeat (first | (with_reducible first | exact HB.out | apply below_alloc | apply pw_below_drewN | apply below_drew1 | refine below_set ?_ GE125.out) | exact HB.out)) hb); clear BK125; clear HB; have BK125 := n0_; have HB := n1_; clear n0_ n1_; (try clear hb); (try clear hb2); (try clear hk); (try clear hi)))
        go_ret
        exact ⟨by first | rfl | (simp [errW_none, errW_some] <;> rfl) | (simp [*, errW_none, errW_some] <;> rfl), by repeat (first | (with_reducible first | exact HB.out | apply below_alloc | apply pw_below_drewN | apply below_drew1 | refine below_set ?_ GE125.out) | exact HB.out)⟩
    · rw [if_neg c6] at H
      have c6b0 : decide (1 ≤ a0) = false := decide_eq_false c6
      clear c6
      obtain rfl := Option.some.inj H
      go_enter Try.func30, Try.ntmps30
      go_wp2_with (first | ((with_reducible refine gate_dst (N := 5) rfl ?_); refine box_event ?hg (N := 5) ?hd (cs := #[.int .i64 a2_0, .int .i64 a2_1, .int .i64 a2_2, .int .i64 a2_3, .int .i64 a2_4, .int .i64 a2_5, .int .i64 a2_6, .int .i64 a2_7]) (t := 23) ?hr ?_; (case hd => rfl); (case hg => rfl); (case hr => first | (go_simp; done) | (go_simp; rfl)); intro gb125 hg w18 hbox hb; have n0_ := Aside0.mk (below_step (by repeat (first | (with_reducible first | exact HB.out | apply below_alloc | apply pw_below_drewN | apply below_drew1) | exact HB.out)) hb); have n1_ := Aside0.mk (hbox); have n2_ := Aside0.mk ((by rw [hg]; exact (below_size (by repeat (first | (with_reducible first | exact HB.out | apply below_alloc | apply pw_below_drewN | apply below_drew1) | exact HB.out))) : w.heap.size ≤ gb125)); have n3_ := Aside0.mk ((by rw [hg]; exact (below_size (by repeat (first | (with_reducible first | exact HB.out | apply below_alloc | apply pw_below_drewN | apply below_drew1) | exact HB.out))) : w.heap.size ≤ gb125)); clear HB; have HB := n0_; have BK125 := n1_; have GW125 := n2_; have GE125 := n3_; clear n0_ n1_ n2_ n3_; clear hb hbox hg; have hcz19_0 : w18.cell? ⟨gb125, 0, none⟩ = some (.int .i64 a2_0) := (blk_cell BK125.out 0).trans rfl; have hcz19_1 : w18.cell? ⟨gb125, 1, none⟩ = some (.int .i64 a2_1) := (blk_cell BK125.out 1).trans rfl; have hcz19_2 : w18.cell? ⟨gb125, 2, none⟩ = some (.int .i64 a2_2) := (blk_cell BK125.out 2).trans rfl; have hcz19_3 : w18.cell? ⟨gb125, 3, none⟩ = some (.int .i64 a2_3) := (blk_cell BK125.out 3).trans rfl; have hcz19_4 : w18.cell? ⟨gb125, 4, none⟩ = some (.int .i64 a2_4) := (blk_cell BK125.out 4).trans rfl; have hcz19_5 : w18.cell? ⟨gb125, 5, none⟩ = some (.int .i64 a2_5) := (blk_cell BK125.out 5).trans rfl; have hcz19_6 : w18.cell? ⟨gb125, 6, none⟩ = some (.int .i64 a2_6) := (blk_cell BK125.out 6).trans rfl; have hcz19_7 : w18.cell? ⟨gb125, 7, none⟩ = some (.int .i64 a2_7) := (blk_cell BK125.out 7).trans rfl; have hfz19_0 := blk_frozen BK125.out 0; have hfz19_1 := blk_frozen BK125.out 1; have hfz19_2 := blk_frozen BK125.out 2; have hfz19_3 := blk_frozen BK125.out 3; have hfz19_4 := blk_frozen BK125.out 4; have hfz19_5 := blk_frozen BK125.out 5; have hfz19_6 := blk_frozen BK125.out 6; have hfz19_7 := blk_frozen BK125.out 7) | ((with_reducible refine gate_callee (f := 27) rfl ?_); refine goesL_ (some 8) rfl rfl Try.func27 (by kernel_rfl) rfl #[.agg #[.int .i64 a2_0, .int .i64 a2_1, .int .i64 a2_2, .int .i64 a2_3, .int .i64 a2_4, .int .i64 a2_5, .int .i64 a2_6, .int .i64 a2_7]] rfl (by (try simp only [List.map_toArray, List.map_cons, List.map_nil]); first | done | rfl | (simp only [List.length_drop, List.length_take]; rfl)) ?_; (with_reducible refine (aviaryref09_Config.calls k a2_0 a2_1 a2_2 a2_3 a2_4 a2_5 a2_6 a2_7 true _ A4.out).mono ?_); rintro e w20 ⟨rfl, hb⟩; refine ⟨_, rfl, ?_⟩; have n0_ := Aside0.mk (blk_below (g := gb125) (o := .cells #[.int .i64 a2_0, .int .i64 a2_1, .int .i64 a2_2, .int .i64 a2_3, .int .i64 a2_4, .int .i64 a2_5, .int .i64 a2_6, .int .i64 a2_7] 23 (0, 0)) (by (with_reducible repeat (first | refine blk_drewN ?_ _ | refine blk_drew ?_ | refine blk_alloc ?_ _)); exact BK125.out) hb); have n1_ := Aside0.mk (below_step (by repeat (first | (with_reducible first | exact HB.out | apply below_alloc | apply pw_below_drewN | apply below_drew1 | refine below_set ?_ GE125.out) | exact HB.out)) hb); clear BK125; clear HB; have BK125 := n0_; have HB := n1_; clear n0_ n1_; (try clear hb); (try clear hb2); (try clear hk); (try clear hi)))
      go_ret
      exact ⟨by first | rfl | (simp [errW_none, errW_some] <;> rfl) | (simp [*, errW_none, errW_some] <;> rfl), by repeat (first | (with_reducible first | exact HB.out | apply below_alloc | apply pw_below_drewN | apply below_drew1 | refine below_set ?_ GE125.out) | exact HB.out)⟩
  · replace c5 := Bool.eq_false_iff.mpr c5
    subst c5
    have H1 : (some false) = some r := by rw [if_neg (show ¬ (false = true) by decide)] at H; exact H
    clear H
    have H := H1
    clear H1
    obtain rfl := Option.some.inj H
    go_enter Try.func30, Try.ntmps30
    go_wp2_with (first | ((with_reducible refine gate_dst (N := 5) rfl ?_); refine box_event ?hg (N := 5) ?hd (cs := #[.int .i64 a2_0, .int .i64 a2_1, .int .i64 a2_2, .int .i64 a2_3, .int .i64 a2_4, .int .i64 a2_5, .int .i64 a2_6, .int .i64 a2_7]) (t := 23) ?hr ?_; (case hd => rfl); (case hg => rfl); (case hr => first | (go_simp; done) | (go_simp; rfl)); intro gb125 hg w21 hbox hb; have n0_ := Aside0.mk (below_step (by repeat (first | (with_reducible first | exact HB.out | apply below_alloc | apply pw_below_drewN | apply below_drew1) | exact HB.out)) hb); have n1_ := Aside0.mk (hbox); have n2_ := Aside0.mk ((by rw [hg]; exact (below_size (by repeat (first | (with_reducible first | exact HB.out | apply below_alloc | apply pw_below_drewN | apply below_drew1) | exact HB.out))) : w.heap.size ≤ gb125)); have n3_ := Aside0.mk ((by rw [hg]; exact (below_size (by repeat (first | (with_reducible first | exact HB.out | apply below_alloc | apply pw_below_drewN | apply below_drew1) | exact HB.out))) : w.heap.size ≤ gb125)); clear HB; have HB := n0_; have BK125 := n1_; have GW125 := n2_; have GE125 := n3_; clear n0_ n1_ n2_ n3_; clear hb hbox hg; have hcz22_0 : w21.cell? ⟨gb125, 0, none⟩ = some (.int .i64 a2_0) := (blk_cell BK125.out 0).trans rfl; have hcz22_1 : w21.cell? ⟨gb125, 1, none⟩ = some (.int .i64 a2_1) := (blk_cell BK125.out 1).trans rfl; have hcz22_2 : w21.cell? ⟨gb125, 2, none⟩ = some (.int .i64 a2_2) := (blk_cell BK125.out 2).trans rfl; have hcz22_3 : w21.cell? ⟨gb125, 3, none⟩ = some (.int .i64 a2_3) := (blk_cell BK125.out 3).trans rfl; have hcz22_4 : w21.cell? ⟨gb125, 4, none⟩ = some (.int .i64 a2_4) := (blk_cell BK125.out 4).trans rfl; have hcz22_5 : w21.cell? ⟨gb125, 5, none⟩ = some (.int .i64 a2_5) := (blk_cell BK125.out 5).trans rfl; have hcz22_6 : w21.cell? ⟨gb125, 6, none⟩ = some (.int .i64 a2_6) := (blk_cell BK125.out 6).trans rfl; have hcz22_7 : w21.cell? ⟨gb125, 7, none⟩ = some (.int .i64 a2_7) := (blk_cell BK125.out 7).trans rfl; have hfz22_0 := blk_frozen BK125.out 0; have hfz22_1 := blk_frozen BK125.out 1; have hfz22_2 := blk_frozen BK125.out 2; have hfz22_3 := blk_frozen BK125.out 3; have hfz22_4 := blk_frozen BK125.out 4; have hfz22_5 := blk_frozen BK125.out 5; have hfz22_6 := blk_frozen BK125.out 6; have hfz22_7 := blk_frozen BK125.out 7) | ((with_reducible refine gate_callee (f := 27) rfl ?_); refine goesL_ (some 8) rfl rfl Try.func27 (by kernel_rfl) rfl #[.agg #[.int .i64 a2_0, .int .i64 a2_1, .int .i64 a2_2, .int .i64 a2_3, .int .i64 a2_4, .int .i64 a2_5, .int .i64 a2_6, .int .i64 a2_7]] rfl (by (try simp only [List.map_toArray, List.map_cons, List.map_nil]); first | done | rfl | (simp only [List.length_drop, List.length_take]; rfl)) ?_; (with_reducible refine (aviaryref09_Config.calls k a2_0 a2_1 a2_2 a2_3 a2_4 a2_5 a2_6 a2_7 false _ A4.out).mono ?_); rintro e w23 ⟨rfl, hb⟩; refine ⟨_, rfl, ?_⟩; have n0_ := Aside0.mk (blk_below (g := gb125) (o := .cells #[.int .i64 a2_0, .int .i64 a2_1, .int .i64 a2_2, .int .i64 a2_3, .int .i64 a2_4, .int .i64 a2_5, .int .i64 a2_6, .int .i64 a2_7] 23 (0, 0)) (by (with_reducible repeat (first | refine blk_drewN ?_ _ | refine blk_drew ?_ | refine blk_alloc ?_ _)); exact BK125.out) hb); have n1_ := Aside0.mk (below_step (by repeat (first | (with_reducible first | exact HB.out | apply below_alloc | apply pw_below_drewN | apply below_drew1 | refine below_set ?_ GE125.out) | exact HB.out)) hb); clear BK125; clear HB; have BK125 := n0_; have HB := n1_; clear n0_ n1_; (try clear hb); (try clear hb2); (try clear hk); (try clear hi)))
    go_ret
    exact ⟨by first | rfl | (simp [errW_none, errW_some] <;> rfl) | (simp [*, errW_none, errW_some] <;> rfl), by repeat (first | (with_reducible first | exact HB.out | apply below_alloc | apply pw_below_drewN | apply below_drew1 | refine below_set ?_ GE125.out) | exact HB.out)⟩

/-! ### aviaryref09_Cut_Next: function 31 -/
def aviaryref09_Cut_Next.f (l0 : List Int) (a1 : Int) : Option (List Int) := (some (([] : List Int) : List Int)).bind fun y101 => (if 0 ≤ a1 then (if a1 ≤ (l0.length : Int) then (if y101.length + (l0.take (a1 : Int).toNat).length < 140737488355328 then (some (y101 ++ (l0.take (a1 : Int).toNat))) else (none)) else (none)) else (none))
set_option maxHeartbeats 8000000 in
set_option maxRecDepth 100000 in
theorem aviaryref09_Cut_Next.calls (A0 : Option Addr) (c0 : Nat) (l0 : List Int) (a1 : Int) (r : List Int) (w : World) (g : Nat) (hg0 : w.heap[g]? = some (.cells #[.slice A0 l0.length c0] 62 (0, 0))) (hr0 : Kd.C (Kd.int .i8) w A0 l0.length l0) (hc0 : l0.length ≤ c0) (h : aviaryref09_Cut_Next.f l0 a1 = some r) :
    Calls Try.prog 31 #[.pointer (some ⟨g, 0, none⟩), .int .i64 a1] w fun e w' => ∃ (v0_ : Value) (A' : Option Addr) (w1 : World), e = .returned (v0_) ∧ Kd.R (Kd.int .i8) 69 w' w.heap.size (fun _ => True) v0_ r ∧ (∀ W : World, Kd.C (Kd.int .i8) W A0 l0.length l0 → Kd.C (Kd.int .i8) W A' (l0.drop a1.toNat).length (l0.drop a1.toNat)) ∧ (l0.drop a1.toNat).length ≤ c0 - a1.toNat ∧ Below w.heap.size w w1 ∧ w' = w1.setCell ⟨g, 0, none⟩ (.slice A' (l0.drop a1.toNat).length (c0 - a1.toNat)) := by
  have hu62 := Try.underlying62
  have GG := Aside0.mk hg0
  clear hg0
  have HR0 := Aside0.mk hr0
  have HC0 := Aside0.mk hc0
  clear hr0 hc0
  have HB := Aside0.mk (Below.refl w.heap.size w)
  have H : ((some (([] : List Int) : List Int)).bind fun y101 => (if 0 ≤ a1 then (if a1 ≤ (l0.length : Int) then (if y101.length + (l0.take (a1 : Int).toNat).length < 140737488355328 then (some (y101 ++ (l0.take (a1 : Int).toNat))) else (none)) else (none)) else (none))) = some r := h
  clear h
  obtain ⟨y101, hy101⟩ : ∃ y_ : List Int, y_ = (([] : List Int)) := ⟨_, rfl⟩
  replace H : (if 0 ≤ a1 then (if a1 ≤ (l0.length : Int) then (if y101.length + (l0.take (a1 : Int).toNat).length < 140737488355328 then (some (y101 ++ (l0.take (a1 : Int).toNat))) else (none)) else (none)) else (none)) = some r := by first | (rw [hy101]; with_reducible exact H) | (have H2_ := (Option.bind_some _ _).symm.trans H; rw [hy101]; with_reducible exact H2_) | (have H2_ := (Option.bind_some _ _).symm.trans H; with_reducible exact H2_) | with_reducible exact H | (rw [hy101]; exact H) | exact H
  have Ny101 := Aside0.mk hy101
  clear hy101
  by_cases c3 : 0 ≤ a1
  · rw [if_pos c3] at H
    have c3b0 := eq_true c3
    have c3b1 : decide (0 ≤ a1) = true := decide_eq_true c3
    clear c3
    by_cases c4 : a1 ≤ (l0.length : Int)
    · rw [if_pos c4] at H
      have c4b0 := eq_true c4
      have c4b1 : decide (a1 ≤ (l0.length : Int)) = true := decide_eq_true c4
      clear c4
      by_cases c5 : y101.length + (l0.take (a1 : Int).toNat).length < 140737488355328
      · rw [if_pos c5] at H
        have LMc5 := Aside0.mk c5
        clear c5
        obtain ⟨y105, hy105⟩ : ∃ y_ : List Int, y_ = (y101 ++ (l0.take (a1 : Int).toNat)) := ⟨_, rfl⟩
        replace H : (some y105) = some r := by first | (rw [hy105]; with_reducible exact H) | (have H2_ := (Option.bind_some _ _).symm.trans H; rw [hy105]; with_reducible exact H2_) | (have H2_ := (Option.bind_some _ _).symm.trans H; with_reducible exact H2_) | with_reducible exact H | (rw [hy105]; exact H) | exact H
        have Ny105 := Aside0.mk hy105
        clear hy105
        obtain rfl := Option.some.inj H
        have z0 : 0 ≤ a1 := of_decide_eq_true c3b1
        have z1 : a1 ≤ (l0.length : Int) := of_decide_eq_true c4b1
        obtain ⟨A', hcut, hcr, hcl⟩ : ∃ A' : Option Addr, (∀ W : World, (Instr.slice 24 (.slice A0 l0.length c0) (some (.int .i64 a1)) none none).run Try.prog W = .ok (.slice A' (l0.drop a1.toNat).length (c0 - a1.toNat)) W) ∧ (∀ W : World, Kd.C (Kd.int .i8) W A0 l0.length l0 → Kd.C (Kd.int .i8) W A' (l0.drop a1.toNat).length (l0.drop a1.toNat)) ∧ (l0.drop a1.toNat).length ≤ c0 - a1.toNat := by
          obtain ⟨iq, hiq, _, hszq, _⟩ := info_parts info69
          obtain ⟨A', q1, q2⟩ := print_cut_of (P := Try.prog) (Value.int .i8) 0 24 69 .i64 Try.underlying24 hiq hszq A0 l0.length c0 a1.toNat (by omega)
          have q3 := HC0.out
          refine ⟨A', fun W => ?_, fun W h => ?_, by rw [List.length_drop]; omega⟩
          · have q4 := q1 W
            rw [Int.toNat_of_nonneg z0] at q4
            rw [List.length_drop]
            exact q4
          · have q5 := q2 W l0 q3 (Kd.reads_of_C h)
            rw [← List.length_drop] at q5
            exact Kd.C_of_reads (h1 := fun _ => rfl) q5
        have CR := Aside0.mk hcr
        have CL := Aside0.mk hcl
        clear hcr hcl z0 z1
        go_enter Try.func31, Try.ntmps31
        go_wp2_with (first | ((with_reducible refine gate_dst (N := 6) rfl ?_); refine Kd.R_lit (Kd.int .i8) _ 69 ?hg (N := 6) ?hd (xs := ([] : List Int)) (inner := []) (ok := fun _ => True) (okp := fun _ => True) ?hr ?hp (fun _ hk => hk) trivial (Below.refl _ _) (Nat.le_refl _) (by simp) ?_; (case hd => rfl); (case hg => rfl); (case hr => first | (go_simp; done) | (go_simp; rfl)); (case hp => exact (Reps.none _ _)); intro v102 w6 ho7 hb hg_ hnew_; clear hg_ hnew_; (first | rw [← Ny101.out] at ho7 | (simp only [Int.reduceToNat] at ho7; rw [← Ny101.out] at ho7)); have n0_ := Aside0.mk (Kd.R_lower ho7 (below_size (by repeat (first | (with_reducible first | exact HB.out | apply below_alloc | apply pw_below_drewN | apply below_drew1) | exact HB.out)))); have n1_ := Aside0.mk (below_step (by repeat (first | (with_reducible first | exact HB.out | apply below_alloc | apply pw_below_drewN | apply below_drew1) | exact HB.out)) hb); clear HB; have HO103 := n0_; have HB := n1_; clear n0_ n1_; clear hb ho7; obtain ⟨i08, hi08, _, hsz8, _⟩ := info_parts info69; obtain ⟨hcut8, hA8, hC8⟩ := print_take_of (P := Try.prog) (Value.int .i8) 0 24 69 .i64 Try.underlying24 hi08 hsz8 A0 c0 l0 a1 (of_decide_eq_true (by first | (with_reducible assumption) | assumption)) (of_decide_eq_true (by first | (with_reducible assumption) | assumption)) HC0.out; have HR104 := Aside0.mk (Kd.C_of_reads (h1 := fun _ => rfl) (hA8 _ (Kd.reads_of_C HR0.out))); have HC104 := Aside0.mk hC8; clear hA8 hC8 hi08 hsz8; have hx : w6.cell? ⟨g, 0, none⟩ = some (.slice A0 l0.length c0) := (blk_cell (blk_below GG.out HB.out) 0).trans rfl) | ((with_reducible refine gate_builtin (b := .append) (xs := #[.tmp 6, .tmp 12]) rfl ?_); at_builtin; refine Kd.R_append_rows (Kd.int .i8) (w0 := w) w.heap.size rfl (.tmp 6) (.tmp 12) 24 69 (.int .i8 0) 1 rfl Try.underlying24 info69 rfl (by decide) (by omega) v102 y101 (l0.take (a1 : Int).toNat) _ _ _ (fun _ => True) (fun _ => False) rfl rfl ?aO ?aR (fun _ _ h => h) (fun _ h => h.elim) ?aF ?aB ?aS ?aL ?_; (case aR => have hz_ := Kd.C_below HR104.out HB.out; rw [show (l0.take (a1 : Int).toNat).length = a1.toNat from (by rw [List.length_take]; have h_ : (a1 : Int) ≤ (l0.length : Int) := of_decide_eq_true (by first | (with_reducible assumption) | assumption); omega)] at hz_; exact hz_); (case aB => exact (by repeat (first | (with_reducible first | exact HB.out | apply below_alloc | apply pw_below_drewN | apply below_drew1) | exact HB.out))); (case aF => exact (fun _ _ => trivial)); (case aO => exact (by (with_reducible repeat (first | apply Kd.R_alloc | apply Kd.R_drewN | apply Kd.R_drew)); exact HO103.out)); (case aS => exact (below_size (by repeat (first | (with_reducible first | exact HB.out | apply below_alloc | apply pw_below_drewN | apply below_drew1) | exact HB.out)))); (case aL => have := LMc5.out; have hlx_ := (show (l0.take (a1 : Int).toNat).length = a1.toNat from (by rw [List.length_take]; have h_ : (a1 : Int) ≤ (l0.length : Int) := of_decide_eq_true (by first | (with_reducible assumption) | assumption); omega)); omega); intro v106 w9 ho hb hg hat; rw [← Ny105.out] at ho; have n0_ := Aside0.mk (hb); have n1_ := Aside0.mk (ho); clear HB; clear HO103; have HB := n0_; have HO107 := n1_; clear n0_ n1_; clear ho hb hg hat; have hx2 : w9.cell? ⟨g, 0, none⟩ = some (.slice A0 l0.length c0) := (blk_cell (blk_below GG.out HB.out) 0).trans rfl; have hf2 := blk_frozen (blk_below GG.out HB.out) 0))
        go_ret
        have hne : some g ≠ v106.ownBlock := fun e_ => by
          have k1 := Kd.R_base HO107.out g e_.symm
          have k2 := blk_lt GG.out
          omega
        have hR := Kd.R_mono (Kd.R_far (p := ⟨g, 0, none⟩) (Kd.R_far1 HO107.out rfl hne) (fun k_ hk_ => hk_.2) (.slice A' (l0.drop a1.toNat).length (c0 - a1.toNat))) (ok' := fun _ => True) (fun _ _ => trivial)
        have hC := CR.out
        have hL := CL.out
        simp only [List.length_drop] at hR hC hL
        refine ⟨_, rfl, ?_, A', ?_, ?_, _, HB.out, ?_⟩
        · first | exact hR | simpa using hR
        · first | exact hC | simpa using hC
        · first | exact hL | simpa using hL
        · first | rfl | (rw [List.length_drop])
      · rw [if_neg c5] at H
        exact absurd H (by simp)
    · rw [if_neg c4] at H
      exact absurd H (by simp)
  · rw [if_neg c3] at H
    exact absurd H (by simp)

/-! ### aviaryref10_Shape: function 11 -/
theorem Next_some {L : List Int} {m : Nat} (h : m ≤ L.length) (hs : m ≤ 1000) : aviaryref09_Cut_Next.f L (m : Int) = some (L.take m) := by
  unfold aviaryref09_Cut_Next.f
  simp only [Option.bind_some]
  rw [if_pos (by omega), if_pos (by omega), if_pos (by rw [Int.toNat_natCast, List.length_take]; simp; omega)]
  simp
/-- What is known at the head of a round of the reference's Shape. -/
structure RfL (w : World) (a0 a1 : Int) (cc : Array Value) (gc : Nat) (l : List Int) (m i : Nat) (Av : Option Addr) (nv cv : Nat) (A : Option Addr) (c : Nat) (L : List Int) (W : World) : Prop where
  cfg : W.heap[w.heap.size]? = some (.cells cc 23 (0, 0))
  res : W.heap[w.heap.size + 1]? = some (.cells #[.int .i64 0, .int .i64 0, .slice none 0 0] 27 (0, 0))
  cut : W.heap[gc]? = some (.cells #[.slice A L.length c] 62 (0, 0))
  ad : W.heap[gc + 1]? = some (.cells #[.int .i64 a0, .int .i64 a1, .slice Av nv cv] 27 (0, 0))
  lay : Kd.S k59 59 W w.heap.size (fun k => gc + 1 < k) (.slice Av nv cv) (shape59 i m l)
  rd : Kd.C (Kd.int .i8) w A L.length L
  rc : L.length ≤ c
  rl : L = l.drop (i * 4 * m)
  ord : w.heap.size + 2 ≤ gc
  b : Below w.heap.size w W
/-- Within a round: H is the layer's block, qr rows lie in it, qc rows are cut off. -/
structure RfI (w : World) (a0 a1 : Int) (cc : Array Value) (gc H : Nat) (l : List Int) (m i : Nat) (Av : Option Addr) (nv cv : Nat) (qr qc : Nat) (cs : Array Value) (A : Option Addr) (c : Nat) (L : List Int) (W : World) : Prop where
  cfg : W.heap[w.heap.size]? = some (.cells cc 23 (0, 0))
  res : W.heap[w.heap.size + 1]? = some (.cells #[.int .i64 0, .int .i64 0, .slice none 0 0] 27 (0, 0))
  cut : W.heap[gc]? = some (.cells #[.slice A L.length c] 62 (0, 0))
  ad : W.heap[gc + 1]? = some (.cells #[.int .i64 a0, .int .i64 a1, .slice Av nv cv] 27 (0, 0))
  gl : W.heap[H]? = some (.cells cs 59 (0, 0))
  csz : cs.size = 4
  lay : Kd.S k59 59 W w.heap.size (fun k => gc + 1 < k ∧ k < H) (.slice Av nv cv) (shape59 i m l)
  rows : ∀ j, j < qr → ∃ u, cs[j]? = some u ∧ Kd.R (Kd.int .i8) 69 W w.heap.size (fun k => H < k) u ((l.drop ((i * 4 + j) * m)).take m)
  rd : Kd.C (Kd.int .i8) w A L.length L
  rc : L.length ≤ c
  rl : L = l.drop ((i * 4 + qc) * m)
  ord : w.heap.size + 2 ≤ gc ∧ gc + 1 < H
  b : Below w.heap.size w W
section
variable {w W W1 w1 : World} {a0 a1 : Int} {cc cs : Array Value} {gc H m i : Nat} {l L : List Int} {Av A A' : Option Addr} {nv cv c qr q : Nat}
theorem RfL.begin (h : RfL w a0 a1 cc gc l m i Av nv cv A c L W) : RfI w a0 a1 cc gc W.heap.size l m i Av nv cv 0 0 #[.slice none 0 0, .slice none 0 0, .slice none 0 0, .slice none 0 0] A c L (W.alloc (.cells #[.slice none 0 0, .slice none 0 0, .slice none 0 0, .slice none 0 0] 59)) :=
  ⟨blk_alloc h.cfg _, blk_alloc h.res _, blk_alloc h.cut _, blk_alloc h.ad _, blk_new W _, rfl, Kd.S_mono (Kd.S_below (Kd.S_bound h.lay) (below_alloc (Below.refl _ _) _)) (fun k hk => ⟨hk.1, hk.2.2.1⟩), fun j hj => absurd hj (by omega), h.rd, h.rc, by simpa using h.rl, ⟨h.ord, blk_lt h.ad⟩, below_alloc h.b _⟩
theorem RfI.next (h : RfI w a0 a1 cc gc H l m i Av nv cv q q cs A c L W) (hm : m ≤ L.length) {v : Value} {W' : World} (hr : Kd.R (Kd.int .i8) 69 W' W.heap.size (fun _ => True) v (L.take m)) (hC : ∀ W : World, Kd.C (Kd.int .i8) W A L.length L → Kd.C (Kd.int .i8) W A' (L.drop m).length (L.drop m)) (hl : (L.drop m).length ≤ c - m) (hb : Below W.heap.size W w1) (hw : W' = w1.setCell ⟨gc, 0, none⟩ (.slice A' (L.drop m).length (c - m))) :
    RfI w a0 a1 cc gc H l m i Av nv cv q (q + 1) cs A' (c - m) (L.drop m) W' ∧ Kd.R (Kd.int .i8) 69 W' w.heap.size (fun k => H < k) v ((l.drop ((i * 4 + q) * m)).take m) := by
  have hH := blk_lt h.gl
  have ho := h.ord
  have hx : ∀ k, k ≠ gc → (w1.setCell ⟨gc, 0, none⟩ (.slice A' (L.drop m).length (c - m))).heap[k]? = w1.heap[k]? := fun k hk => Below.heap_setCell w1 ⟨gc, 0, none⟩ _ k hk
  subst hw
  refine ⟨⟨blk_far (blk_below h.cfg hb) (by simp; omega) _, blk_far (blk_below h.res hb) (by simp; omega) _, blk_set (blk_below h.cut hb) 0 _, blk_far (blk_below h.ad hb) (by simp) _, blk_far (blk_below h.gl hb) (by simp; omega) _, h.csz, ?_, fun j hj => ?_, hC w h.rd, hl, ?_, ho, below_set (below_step h.b hb) (by omega)⟩, ?_⟩
  · exact Kd.S_step (Kd.S_below h.lay hb) (fun k hk _ => hx k (by omega))
  · obtain ⟨u, hu, hru⟩ := h.rows j hj
    exact ⟨u, hu, Kd.R_step (Kd.R_below hru hb) (fun k hk _ => hx k (by omega))⟩
  · rw [h.rl, List.drop_drop]
    congr 1
    exact (Nat.succ_mul (i * 4 + q) m).symm
  · rw [← h.rl]
    exact Kd.R_mono (Kd.R_lower (Kd.R_bound hr) h.b.size) (fun k hk => by have := hk.2.1; omega)
theorem RfI.store (h : RfI w a0 a1 cc gc H l m i Av nv cv q (q + 1) cs A c L W) (hq : q < 4) {v : Value} (hr : Kd.R (Kd.int .i8) 69 W w.heap.size (fun k => H < k) v ((l.drop ((i * 4 + q) * m)).take m)) :
    RfI w a0 a1 cc gc H l m i Av nv cv (q + 1) (q + 1) (cs.setIfInBounds q v) A c L (W.setCell ⟨H, q, none⟩ v) := by
  have ho := h.ord
  have hz := h.csz
  have hx : ∀ k, k ≠ H → (W.setCell ⟨H, q, none⟩ v).heap[k]? = W.heap[k]? := fun k hk => Below.heap_setCell W ⟨H, q, none⟩ _ k hk
  refine ⟨blk_far h.cfg (by simp; omega) _, blk_far h.res (by simp; omega) _, blk_far h.cut (by simp; omega) _, blk_far h.ad (by simp; omega) _, blk_set h.gl q v, by simpa using h.csz, Kd.S_step h.lay (fun k hk _ => hx k (by omega)), fun j hj => ?_, h.rd, h.rc, h.rl, ho, below_set h.b (by omega)⟩
  by_cases hj2 : j = q
  · subst hj2
    exact ⟨v, by rw [Array.getElem?_setIfInBounds_self_of_lt (by omega)], Kd.R_step hr (fun k hk _ => hx k (by omega))⟩
  · obtain ⟨u, hu, hru⟩ := h.rows j (by omega)
    exact ⟨u, by rw [Array.getElem?_setIfInBounds_ne (Ne.symm hj2)]; exact hu, Kd.R_step hru (fun k hk _ => hx k (by omega))⟩
theorem RfI.below (h : RfI w a0 a1 cc gc H l m i Av nv cv qr q cs A c L W) (hb : Below W.heap.size W W1) : RfI w a0 a1 cc gc H l m i Av nv cv qr q cs A c L W1 :=
  ⟨blk_below h.cfg hb, blk_below h.res hb, blk_below h.cut hb, blk_below h.ad hb, blk_below h.gl hb, h.csz, Kd.S_below h.lay hb, fun j hj => by obtain ⟨u, hu, hr⟩ := h.rows j hj; exact ⟨u, hu, Kd.R_below hr hb⟩, h.rd, h.rc, h.rl, h.ord, below_step h.b hb⟩
theorem RfI.elem {v0 v1 v2 v3 : Value} (h : RfI w a0 a1 cc gc H l m i Av nv cv 4 q #[v0, v1, v2, v3] A c L W) : k59.M W w.heap.size (fun k => H < k) (cut59 m l i) [v0, v1, v2, v3] := by
  obtain ⟨u0, e0, r0⟩ := h.rows 0 (by omega)
  obtain ⟨u1, e1, r1⟩ := h.rows 1 (by omega)
  obtain ⟨u2, e2, r2⟩ := h.rows 2 (by omega)
  obtain ⟨u3, e3, r3⟩ := h.rows 3 (by omega)
  obtain rfl : v0 = u0 := by simpa using e0
  obtain rfl : v1 = u1 := by simpa using e1
  obtain rfl : v2 = u2 := by simpa using e2
  obtain rfl : v3 = u3 := by simpa using e3
  exact k59_mkM W _ _ _ r0 r1 r2 r3
theorem RfI.finish (h : RfI w a0 a1 cc gc H l m i Av nv cv 4 4 cs A c L W) {Av2 : Option Addr} {nv2 cv2 : Nat} (hs : Kd.S k59 59 W1 w.heap.size (fun k => gc + 1 < k) (.slice Av2 nv2 cv2) (shape59 (i + 1) m l)) (hb : Below w.heap.size w W1) (hg : ∀ k, k < W.heap.size → k ≤ gc + 1 → W1.heap[k]? = W.heap[k]?) :
    RfL w a0 a1 cc gc l m (i + 1) Av2 nv2 cv2 A c L (W1.setCell ⟨gc + 1, 2, none⟩ (.slice Av2 nv2 cv2)) := by
  have ho := h.ord
  have hx : ∀ k, k ≠ gc + 1 → (W1.setCell ⟨gc + 1, 2, none⟩ (.slice Av2 nv2 cv2)).heap[k]? = W1.heap[k]? := fun k hk => Below.heap_setCell W1 ⟨gc + 1, 2, none⟩ _ k hk
  have h4 : W1.heap[gc + 1]? = some (.cells #[.int .i64 a0, .int .i64 a1, .slice Av nv cv] 27 (0, 0)) := (hg _ (blk_lt h.ad) (Nat.le_refl _)).trans h.ad
  refine ⟨?_, ?_, ?_, blk_set h4 2 _, Kd.S_step hs (fun k hk _ => hx k (by omega)), h.rd, h.rc, ?_, ho.1, below_set hb (by omega)⟩
  · exact (hx _ (by omega)).trans ((hg _ (blk_lt h.cfg) (by omega)).trans h.cfg)
  · exact (hx _ (by omega)).trans ((hg _ (blk_lt h.res) (by omega)).trans h.res)
  · exact (hx _ (by omega)).trans ((hg _ (blk_lt h.cut) (by omega)).trans h.cut)
  · rw [h.rl, show (i + 1) * 4 = i * 4 + 4 from by omega]
theorem RfL.result (h : RfL w a0 a1 cc gc l m i Av nv cv A c L W) (x y z : Value) : Kd.S k59 59 (((W.setCell ⟨w.heap.size + 1, 0, none⟩ x).setCell ⟨w.heap.size + 1, 1, none⟩ y).setCell ⟨w.heap.size + 1, 2, none⟩ z) w.heap.size (fun _ => True) (.slice Av nv cv) (shape59 i m l) := by
  have ho := h.ord
  have hok : ∀ k, gc + 1 < k → k ≠ w.heap.size + 1 := fun k hk => by omega
  exact Kd.S_mono (Kd.S_far (p := ⟨w.heap.size + 1, 2, none⟩) (Kd.S_far (p := ⟨w.heap.size + 1, 1, none⟩) (Kd.S_far (p := ⟨w.heap.size + 1, 0, none⟩) h.lay hok x) hok y) hok z) (fun _ _ => trivial)
end
theorem slice_take {L : List Int} {m : Nat} {W : World} {base : Nat} {ok : Nat → Prop} {v : Value} (h : Kd.R (Kd.int .i8) 69 W base ok v (L.take m)) (hm : m ≤ L.length) : ∃ B d, v = .slice B m d := by
  obtain ⟨B, d, e⟩ := Kd.R_slice h
  exact ⟨B, d, by rw [e, List.length_take, Nat.min_eq_left hm]⟩
theorem rest_len {L l : List Int} {n m i q : Nat} (hL : L = l.drop ((i * 4 + q) * m)) (hl : l.length = n * 4 * m) (hi : i < n) (hq : q < 4) : m ≤ L.length := by
  rw [hL, List.length_drop, hl, ← Nat.sub_mul]
  exact Nat.le_mul_of_pos_left _ (by omega)
theorem shape59_succ (i m : Nat) (l : List Int) : shape59 (i + 1) m l = shape59 i m l ++ [cut59 m l i] := by
  simp [shape59, List.range_succ]
def aviaryref10_Shape.f (k : Nat) (a0 : Int) (a1 : Int) (a2_0 : Int) (a2_1 : Int) (a2_2 : Int) (a2_3 : Int) (a2_4 : Int) (a2_5 : Int) (a2_6 : Int) (a2_7 : Int) (l3 : List Int) : Option (Int × Int × (List (S59)) × Int) := (aviaryref10_ranges.f k a0 a1 a2_0 a2_1 a2_2 a2_3 a2_4 a2_5 a2_6 a2_7).bind fun t => (if t = true then (if (l3.length : Int) = wrap64 (wrap64 (a2_2 * 4) * wrap64 (a0 * a2_0)) then (if (1 ≤ a2_2 ∧ a2_2 ≤ 1000) ∧ (1 ≤ a0 * a2_0 ∧ a0 * a2_0 ≤ 1000) then (some (a0, a1, shape59 a2_2.toNat (a0 * a2_0).toNat l3, 0)) else (none)) else (some (0, 0, [], 21))) else (some (0, 0, [], 20)))
theorem aviaryref10_Shape.mono : ∀ a0 a1 a2 a3 a4 a5 a6 a7 a8 a9 a10 k, LeO (aviaryref10_Shape.f k a0 a1 a2 a3 a4 a5 a6 a7 a8 a9 a10) (aviaryref10_Shape.f (k + 1) a0 a1 a2 a3 a4 a5 a6 a7 a8 a9 a10) := by
  intro a0 a1 a2 a3 a4 a5 a6 a7 a8 a9 a10 k
  unfold aviaryref10_Shape.f
  repeat' first
      | (with_reducible exact LeO.refl _)
      | (with_reducible exact LeO.none _)
      | (with_reducible refine LeO.ite ?_ ?_)
      | (with_reducible exact aviaryref10_ranges.mono _ _ _ _ _ _ _ _ _ _ _)
      | (with_reducible refine LeO.bind ?_ (fun _ => ?_))
set_option maxHeartbeats 8000000 in
set_option maxRecDepth 100000 in
theorem aviaryref10_Shape.calls (k : Nat) (a0 : Int) (a1 : Int) (a2_0 : Int) (a2_1 : Int) (a2_2 : Int) (a2_3 : Int) (a2_4 : Int) (a2_5 : Int) (a2_6 : Int) (a2_7 : Int) (A3 : Option Addr) (c3 : Nat) (l3 : List Int) (r1 : Int) (r2 : Int) (r3 : List (S59)) (r4 : Int) (w : World) (hr3 : Kd.C (Kd.int .i8) w A3 l3.length l3) (hc3 : l3.length ≤ c3) (h : aviaryref10_Shape.f k a0 a1 a2_0 a2_1 a2_2 a2_3 a2_4 a2_5 a2_6 a2_7 l3 = some (r1, r2, r3, r4)) :
    Calls Try.prog 11 #[.int .i64 a0, .int .i64 a1, .agg #[.int .i64 a2_0, .int .i64 a2_1, .int .i64 a2_2, .int .i64 a2_3, .int .i64 a2_4, .int .i64 a2_5, .int .i64 a2_6, .int .i64 a2_7], .slice A3 l3.length c3] w fun e w' => ∃ v2_ : Value, e = .returned (.tuple #[.agg #[.int .i64 r1, .int .i64 r2, v2_], .int .i64 r4]) ∧ Kd.S k59 59 w' w.heap.size (fun _ => True) v2_ r3 ∧ Below w.heap.size w w' := by
  have hu23 := Try.underlying23
  have hu27 := Try.underlying27
  have hu25 := Try.underlying25
  have hu24 := Try.underlying24
  have hu59 := Try.underlying59
  have hu55 := Try.underlying55
  have HR := Aside0.mk hr3
  have HC := Aside0.mk hc3
  clear hr3 hc3
  have HI0 := Aside0.mk (ShTwo.start w 23 27 #[.int .i64 a2_0, .int .i64 a2_1, .int .i64 a2_2, .int .i64 a2_3, .int .i64 a2_4, .int .i64 a2_5, .int .i64 a2_6, .int .i64 a2_7] #[.int .i64 0, .int .i64 0, .slice none 0 0])
  obtain ⟨t, ht, H⟩ := Option.bind_eq_some_iff.mp h
  clear h
  have HT := Aside0.mk ht
  clear ht
  cases t with
  | false =>
    rw [if_neg (by simp)] at H
    simp only [Option.some.injEq, Prod.mk.injEq] at H
    obtain ⟨rfl, rfl, rfl, rfl⟩ := H
    go_enter Try.func11, Try.ntmps11
    go_wp2_with (first | ((with_reducible refine gate_callee (f := 30) rfl ?_); refine goesL_ (some 18) rfl rfl Try.func30 (by kernel_rfl) rfl #[.int .i64 a0, .int .i64 a1, .agg #[.int .i64 a2_0, .int .i64 a2_1, .int .i64 a2_2, .int .i64 a2_3, .int .i64 a2_4, .int .i64 a2_5, .int .i64 a2_6, .int .i64 a2_7]] rfl (by (try simp only [List.map_toArray, List.map_cons, List.map_nil]); first | done | rfl) ?_; (with_reducible refine (aviaryref10_ranges.calls k a0 a1 a2_0 a2_1 a2_2 a2_3 a2_4 a2_5 a2_6 a2_7 false _ HT.out).mono ?_); rintro e w1 ⟨rfl, hb⟩; refine ⟨_, rfl, ?_⟩; have HI := Aside0.mk (HI0.out.below hb); clear hb HI0; have hz0 : w1.cell? ⟨w.heap.size + 1, 0, none⟩ = some (.int .i64 0) := (blk_cell HI.out.b2 0).trans rfl; have hz1 : w1.cell? ⟨w.heap.size + 1, 1, none⟩ = some (.int .i64 0) := (blk_cell HI.out.b2 1).trans rfl; have hz2 : w1.cell? ⟨w.heap.size + 1, 2, none⟩ = some (.slice none 0 0) := (blk_cell HI.out.b2 2).trans rfl; have hc0 : w1.cell? ⟨w.heap.size, 0, none⟩ = some (.int .i64 a2_0) := (blk_cell HI.out.b1 0).trans rfl; have hc2 : w1.cell? ⟨w.heap.size, 2, none⟩ = some (.int .i64 a2_2) := (blk_cell HI.out.b1 2).trans rfl; have fz0 := blk_frozen HI.out.b2 0; have fz1 := blk_frozen HI.out.b2 1; have fz2 := blk_frozen HI.out.b2 2))
    exact bodyPost_ret (v := .tuple #[.agg #[.int .i64 0, .int .i64 0, .slice none 0 0], .int .i64 20]) (by simp [results, Try.results11, go_sem, hz0, hz1, hz2, fz0, fz1, fz2]) rfl ⟨_, rfl, ⟨fun _ => 0, Kd.R_nil _ _ _ _ _⟩, below_set (below_set (below_set HI.out.bl (Nat.le_succ _)) (Nat.le_succ _)) (Nat.le_succ _)⟩
  | true =>
    rw [if_pos rfl] at H
    by_cases cl : (l3.length : Int) = wrap64 (wrap64 (a2_2 * 4) * wrap64 (a0 * a2_0))
    · rw [if_pos cl] at H
      by_cases cn : (1 ≤ a2_2 ∧ a2_2 ≤ 1000) ∧ (1 ≤ a0 * a2_0 ∧ a0 * a2_0 ≤ 1000)
      · rw [if_pos cn] at H
        simp only [Option.some.injEq, Prod.mk.injEq] at H
        obtain ⟨rfl, rfl, rfl, rfl⟩ := H
        obtain ⟨⟨n1, n2⟩, m1, m2⟩ := cn
        obtain ⟨n, rfl⟩ := Int.eq_ofNat_of_zero_le (show 0 ≤ a2_2 by omega)
        obtain ⟨m, hm⟩ := Int.eq_ofNat_of_zero_le (show 0 ≤ a0 * a2_0 by omega)
        have hm1 : 1 ≤ m := by omega
        have hm2 : m ≤ 1000 := by omega
        have hn1 : 1 ≤ n := by omega
        have hn2 : n ≤ 1000 := by omega
        have hw1 : wrap64 (a0 * a2_0) = (m : Int) := by rw [hm]; unfold wrap64; omega
        have hw0 : wrap64 ((n : Int) * 4) = (n : Int) * 4 := by unfold wrap64; omega
        have hnm : n * 4 * m ≤ 4000000 := Nat.le_trans (Nat.mul_le_mul (show n * 4 ≤ 4000 by omega) hm2) (by decide)
        have hw2 : wrap64 ((n : Int) * 4 * (m : Int)) = ((n * 4 * m : Nat) : Int) := by rw [show (n : Int) * 4 * (m : Int) = ((n * 4 * m : Nat) : Int) by simp]; unfold wrap64; omega
        have hll : l3.length = n * 4 * m := by rw [hw1, hw0, hw2] at cl; omega
        clear cl n1 n2 m1 m2 hw0
        rw [hm, Int.toNat_natCast, Int.toNat_natCast]
        have hkw1 : IntKind.i64.wrap (a0 * a2_0) = (m : Int) := by rw [i64_w]; exact hw1
        have hkw2 : IntKind.i64.wrap ((n : Int) * 4 * (m : Int)) = (l3.length : Int) := by rw [hll, i64_w]; exact hw2
        have hkw3 : wrap64 ((n : Int) * 4 * (m : Int)) = (l3.length : Int) := by rw [hll]; exact hw2
        have HM := Aside0.mk hm
        have HLL := Aside0.mk hll
        have HNM := Aside0.mk hnm
        have HM12 := Aside0.mk (And.intro hm1 hm2)
        clear hm hll hnm hw2 hm1 hm2
        have hn1' : (1 : Int) ≤ (n : Int) := by omega
        have hn2' : (n : Int) ≤ 1000 := by omega
        clear hn1 hn2
        go_enter Try.func11, Try.ntmps11
        go_wp2_with (first | ((with_reducible refine gate_callee (f := 30) rfl ?_); refine goesL_ (some 18) rfl rfl Try.func30 (by kernel_rfl) rfl #[.int .i64 a0, .int .i64 a1, .agg #[.int .i64 a2_0, .int .i64 a2_1, .int .i64 (n : Int), .int .i64 a2_3, .int .i64 a2_4, .int .i64 a2_5, .int .i64 a2_6, .int .i64 a2_7]] rfl (by (try simp only [List.map_toArray, List.map_cons, List.map_nil]); first | done | rfl) ?_; (with_reducible refine (aviaryref10_ranges.calls k a0 a1 a2_0 a2_1 (n : Int) a2_3 a2_4 a2_5 a2_6 a2_7 true _ HT.out).mono ?_); rintro e w1 ⟨rfl, hb⟩; refine ⟨_, rfl, ?_⟩; have HI := Aside0.mk ((ShTwo.start w 23 27 #[.int .i64 a2_0, .int .i64 a2_1, .int .i64 (n : Int), .int .i64 a2_3, .int .i64 a2_4, .int .i64 a2_5, .int .i64 a2_6, .int .i64 a2_7] #[.int .i64 0, .int .i64 0, .slice none 0 0]).below hb); clear hb; have hz0 : w1.cell? ⟨w.heap.size + 1, 0, none⟩ = some (.int .i64 0) := (blk_cell HI.out.b2 0).trans rfl; have hz1 : w1.cell? ⟨w.heap.size + 1, 1, none⟩ = some (.int .i64 0) := (blk_cell HI.out.b2 1).trans rfl; have hz2 : w1.cell? ⟨w.heap.size + 1, 2, none⟩ = some (.slice none 0 0) := (blk_cell HI.out.b2 2).trans rfl; have hc0 : w1.cell? ⟨w.heap.size, 0, none⟩ = some (.int .i64 a2_0) := (blk_cell HI.out.b1 0).trans rfl; have hc2 : w1.cell? ⟨w.heap.size, 2, none⟩ = some (.int .i64 (n : Int)) := (blk_cell HI.out.b1 2).trans rfl; have fz0 := blk_frozen HI.out.b2 0; have fz1 := blk_frozen HI.out.b2 1; have fz2 := blk_frozen HI.out.b2 2))
        obtain ⟨gc, hgc⟩ : ∃ gc, gc = w1.heap.size := ⟨_, rfl⟩
        have HL3 : Aside0 (RfL w a0 a1 #[.int .i64 a2_0, .int .i64 a2_1, .int .i64 (n : Int), .int .i64 a2_3, .int .i64 a2_4, .int .i64 a2_5, .int .i64 a2_6, .int .i64 a2_7] gc l3 m 0 none 0 0 A3 c3 l3 ((w1.alloc (.cells #[.slice A3 l3.length c3] 62)).alloc (.cells #[.int .i64 a0, .int .i64 a1, .slice none 0 0] 27))) := by
          subst hgc
          have h1 := blk_lt HI.out.b2
          have h2 := blk_new (w1.alloc (.cells #[.slice A3 l3.length c3] 62)) (.cells #[.int .i64 a0, .int .i64 a1, .slice none 0 0] 27)
          simp only [World.size_alloc] at h2
          exact ⟨⟨blk_alloc (blk_alloc HI.out.b1 _) _, blk_alloc (blk_alloc HI.out.b2 _) _, blk_alloc (blk_new w1 _) _, h2, Kd.S_nil _ _ _ _ _, HR.out, HC.out, by simp, h1, below_alloc (below_alloc HI.out.bl _) _⟩⟩
        clear HI HI0
        rw [← hgc]
        generalize (w1.alloc (.cells #[.slice A3 l3.length c3] 62)).alloc (.cells #[.int .i64 a0, .int .i64 a1, .slice none 0 0] 27) = w6 at HL3 ⊢
        clear hz0 hz1 hz2 hc0 hc2 fz0 fz1 fz2
        clear hgc
        go_loopg [13] n (fun kq v13 wr => ∃ (i : Nat) (Av : Option Addr) (nv cv : Nat) (A : Option Addr) (c : Nat) (L : List Int), v13 = .int .i64 (i : Int) ∧ i + kq = n ∧ Aside0 (RfL w a0 a1 #[.int .i64 a2_0, .int .i64 a2_1, .int .i64 (n : Int), .int .i64 a2_3, .int .i64 a2_4, .int .i64 a2_5, .int .i64 a2_6, .int .i64 a2_7] gc l3 m i Av nv cv A c L wr))
        case atStart => exact ⟨0, none, 0, 0, A3, c3, l3, rfl, by omega, HL3⟩
        case round =>
          clear HL3
          obtain ⟨i, Av, nv, cv, A, c, L0, rfl, hik, HL⟩ := hrel
          have hcn : wr.cell? ⟨w.heap.size, 2, none⟩ = some (.int .i64 (n : Int)) := (blk_cell HL.out.cfg 2).trans rfl
          by_cases ci : i < n
          · have cb : decide ((i : Int) < (n : Int)) = true := decide_eq_true (by omega)
            have HI := Aside0.mk HL.out.begin
            have HM := Aside0.mk (rest_len (q := 0) HL.out.rl HLL.out ci (by omega))
            have HH := Aside0.mk (rfl : wr.heap.size = wr.heap.size)
            clear HL
            go_wp2_with (first | ((with_reducible refine gate_callee (f := 31) rfl ?_); refine goesL_ (some 49) rfl rfl Try.func31 (by kernel_rfl) rfl #[.pointer (some ⟨gc, 0, none⟩), .int .i64 (m : Int)] rfl (by (try simp only [List.map_toArray, List.map_cons, List.map_nil]); first | done | rfl) ?_; have hI := HI.out; have hml := HM.out; (with_reducible refine (aviaryref09_Cut_Next.calls _ _ _ (m : Int) _ _ gc hI.cut (Kd.C_below hI.rd hI.b) hI.rc (Next_some hml HM12.out.2)).mono ?_); rintro e wn ⟨v_, E1, wm, rfl, hr_, hC_, hl_, hb_, hw_⟩; rw [Int.toNat_natCast] at hC_ hl_ hw_; refine ⟨_, rfl, ?_⟩; have hn := hI.next hml hr_ hC_ hl_ hb_ hw_; have hsl := slice_take hr_ hml; clear hr_ hC_ hl_ hb_ hw_ hI hml; obtain ⟨hn1, hn2⟩ := hn; obtain ⟨B0, d0, hv_⟩ := hsl; subst hv_; clear HI; have HI := Aside0.mk hn1; have HS := Aside0.mk hn2; clear hn1 hn2; have hg := (blk_cell HI.out.gl 0).trans rfl; have hgf := blk_frozen HI.out.gl 0) | ((with_reducible refine gate_callee (f := 31) rfl ?_); refine goesL_ (some 53) rfl rfl Try.func31 (by kernel_rfl) rfl #[.pointer (some ⟨gc, 0, none⟩), .int .i64 (m : Int)] rfl (by (try simp only [List.map_toArray, List.map_cons, List.map_nil]); first | done | rfl) ?_; have hI := HI.out; have hml := HM.out; (with_reducible refine (aviaryref09_Cut_Next.calls _ _ _ (m : Int) _ _ gc hI.cut (Kd.C_below hI.rd hI.b) hI.rc (Next_some hml HM12.out.2)).mono ?_); rintro e wn ⟨v_, E2, wm, rfl, hr_, hC_, hl_, hb_, hw_⟩; rw [Int.toNat_natCast] at hC_ hl_ hw_; refine ⟨_, rfl, ?_⟩; have hn := hI.next hml hr_ hC_ hl_ hb_ hw_; have hsl := slice_take hr_ hml; clear hr_ hC_ hl_ hb_ hw_ hI hml; obtain ⟨hn1, hn2⟩ := hn; obtain ⟨B1, d1, hv_⟩ := hsl; subst hv_; clear HI; have HI := Aside0.mk hn1; have HS := Aside0.mk hn2; clear hn1 hn2; have hg := (blk_cell HI.out.gl 1).trans rfl; have hgf := blk_frozen HI.out.gl 1) | ((with_reducible refine gate_callee (f := 31) rfl ?_); refine goesL_ (some 57) rfl rfl Try.func31 (by kernel_rfl) rfl #[.pointer (some ⟨gc, 0, none⟩), .int .i64 (m : Int)] rfl (by (try simp only [List.map_toArray, List.map_cons, List.map_nil]); first | done | rfl) ?_; have hI := HI.out; have hml := HM.out; (with_reducible refine (aviaryref09_Cut_Next.calls _ _ _ (m : Int) _ _ gc hI.cut (Kd.C_below hI.rd hI.b) hI.rc (Next_some hml HM12.out.2)).mono ?_); rintro e wn ⟨v_, E3, wm, rfl, hr_, hC_, hl_, hb_, hw_⟩; rw [Int.toNat_natCast] at hC_ hl_ hw_; refine ⟨_, rfl, ?_⟩; have hn := hI.next hml hr_ hC_ hl_ hb_ hw_; have hsl := slice_take hr_ hml; clear hr_ hC_ hl_ hb_ hw_ hI hml; obtain ⟨hn1, hn2⟩ := hn; obtain ⟨B2, d2, hv_⟩ := hsl; subst hv_; clear HI; have HI := Aside0.mk hn1; have HS := Aside0.mk hn2; clear hn1 hn2; have hg := (blk_cell HI.out.gl 2).trans rfl; have hgf := blk_frozen HI.out.gl 2) | ((with_reducible refine gate_callee (f := 31) rfl ?_); refine goesL_ (some 61) rfl rfl Try.func31 (by kernel_rfl) rfl #[.pointer (some ⟨gc, 0, none⟩), .int .i64 (m : Int)] rfl (by (try simp only [List.map_toArray, List.map_cons, List.map_nil]); first | done | rfl) ?_; have hI := HI.out; have hml := HM.out; (with_reducible refine (aviaryref09_Cut_Next.calls _ _ _ (m : Int) _ _ gc hI.cut (Kd.C_below hI.rd hI.b) hI.rc (Next_some hml HM12.out.2)).mono ?_); rintro e wn ⟨v_, E4, wm, rfl, hr_, hC_, hl_, hb_, hw_⟩; rw [Int.toNat_natCast] at hC_ hl_ hw_; refine ⟨_, rfl, ?_⟩; have hn := hI.next hml hr_ hC_ hl_ hb_ hw_; have hsl := slice_take hr_ hml; clear hr_ hC_ hl_ hb_ hw_ hI hml; obtain ⟨hn1, hn2⟩ := hn; obtain ⟨B3, d3, hv_⟩ := hsl; subst hv_; clear HI; have HI := Aside0.mk hn1; have HS := Aside0.mk hn2; clear hn1 hn2; have hg := (blk_cell HI.out.gl 3).trans rfl; have hgf := blk_frozen HI.out.gl 3) | ((with_reducible refine gate_store (t := 24) (p := 50) rfl ?_); refine store_event (t := 24) (p := 50) (v := .tmp 49) (w1 := wn.setCell ⟨wr.heap.size, 0, none⟩ (.slice B0 m d0)) ?hg ?ho ?hn ?hr ?_; (case ho => rfl); (case hg => rfl); (case hn => rfl); (case hr => first | (go_simp; done) | (go_simp; rfl)); intro ws hw; have hI : RfI w a0 a1 #[.int .i64 a2_0, .int .i64 a2_1, .int .i64 (n : Int), .int .i64 a2_3, .int .i64 a2_4, .int .i64 a2_5, .int .i64 a2_6, .int .i64 a2_7] gc wr.heap.size l3 m i Av nv cv 1 1 #[.slice B0 m d0, .slice none 0 0, .slice none 0 0, .slice none 0 0] E1 (c - m) (L0.drop m) ws := (by rw [hw]; exact HI.out.store (by omega) HS.out); clear hw hg hgf HI HS; have HI := Aside0.mk hI; clear hI; clear HM; have HM := Aside0.mk (rest_len HI.out.rl HLL.out ci (by omega) : m ≤ _)) | ((with_reducible refine gate_store (t := 24) (p := 54) rfl ?_); refine store_event (t := 24) (p := 54) (v := .tmp 53) (w1 := wn.setCell ⟨wr.heap.size, 1, none⟩ (.slice B1 m d1)) ?hg ?ho ?hn ?hr ?_; (case ho => rfl); (case hg => rfl); (case hn => rfl); (case hr => first | (go_simp; done) | (go_simp; rfl)); intro ws hw; have hI : RfI w a0 a1 #[.int .i64 a2_0, .int .i64 a2_1, .int .i64 (n : Int), .int .i64 a2_3, .int .i64 a2_4, .int .i64 a2_5, .int .i64 a2_6, .int .i64 a2_7] gc wr.heap.size l3 m i Av nv cv 2 2 #[.slice B0 m d0, .slice B1 m d1, .slice none 0 0, .slice none 0 0] E2 ((c - m) - m) ((L0.drop m).drop m) ws := (by rw [hw]; exact HI.out.store (by omega) HS.out); clear hw hg hgf HI HS; have HI := Aside0.mk hI; clear hI; clear HM; have HM := Aside0.mk (rest_len HI.out.rl HLL.out ci (by omega) : m ≤ _)) | ((with_reducible refine gate_store (t := 24) (p := 58) rfl ?_); refine store_event (t := 24) (p := 58) (v := .tmp 57) (w1 := wn.setCell ⟨wr.heap.size, 2, none⟩ (.slice B2 m d2)) ?hg ?ho ?hn ?hr ?_; (case ho => rfl); (case hg => rfl); (case hn => rfl); (case hr => first | (go_simp; done) | (go_simp; rfl)); intro ws hw; have hI : RfI w a0 a1 #[.int .i64 a2_0, .int .i64 a2_1, .int .i64 (n : Int), .int .i64 a2_3, .int .i64 a2_4, .int .i64 a2_5, .int .i64 a2_6, .int .i64 a2_7] gc wr.heap.size l3 m i Av nv cv 3 3 #[.slice B0 m d0, .slice B1 m d1, .slice B2 m d2, .slice none 0 0] E3 (((c - m) - m) - m) (((L0.drop m).drop m).drop m) ws := (by rw [hw]; exact HI.out.store (by omega) HS.out); clear hw hg hgf HI HS; have HI := Aside0.mk hI; clear hI; clear HM; have HM := Aside0.mk (rest_len HI.out.rl HLL.out ci (by omega) : m ≤ _)) | ((with_reducible refine gate_store (t := 24) (p := 62) rfl ?_); refine store_event (t := 24) (p := 62) (v := .tmp 61) (w1 := wn.setCell ⟨wr.heap.size, 3, none⟩ (.slice B3 m d3)) ?hg ?ho ?hn ?hr ?_; (case ho => rfl); (case hg => rfl); (case hn => rfl); (case hr => first | (go_simp; done) | (go_simp; rfl)); intro ws hw; have hI : RfI w a0 a1 #[.int .i64 a2_0, .int .i64 a2_1, .int .i64 (n : Int), .int .i64 a2_3, .int .i64 a2_4, .int .i64 a2_5, .int .i64 a2_6, .int .i64 a2_7] gc wr.heap.size l3 m i Av nv cv 4 4 #[.slice B0 m d0, .slice B1 m d1, .slice B2 m d2, .slice B3 m d3] E4 ((((c - m) - m) - m) - m) ((((L0.drop m).drop m).drop m).drop m) ws := (by rw [hw]; exact HI.out.store (by omega) HS.out); clear hw hg hgf HI HS; have HI := Aside0.mk hI; clear hI; have hcx := (blk_cell HI.out.ad 2).trans rfl; have hcl0 := (blk_cell HI.out.gl 0).trans rfl; have hcl1 := (blk_cell HI.out.gl 1).trans rfl; have hcl2 := (blk_cell HI.out.gl 2).trans rfl; have hcl3 := (blk_cell HI.out.gl 3).trans rfl) | ((with_reducible refine gate_builtin (b := .append) (xs := #[.tmp 64, .tmp 66]) rfl ?_); at_builtin; refine Kd.S_append k59 (w0 := w) w.heap.size rfl (.tmp 64) (.tmp 66) 25 59 (.agg #[(.slice none 0 0), (.slice none 0 0), (.slice none 0 0), (.slice none 0 0)]) 96 rfl Try.underlying25 info59 rfl (by decide) (by omega) (.slice Av nv cv) (shape59 i m l3) (cut59 m l3 i) _ (fun k => gc + 1 < k) (fun k => wr.heap.size < k) rfl rfl HI.out.elem (fun k hk => ⟨Nat.lt_trans HI.out.ord.2 hk, fun e_ => absurd ((Kd.S_R HI.out.lay).1 k e_.symm).2 (by omega)⟩) (fun k hk => by have h1 := HI.out.ord; have h2 := blk_lt HI.out.gl; omega) (Kd.S_mono HI.out.lay (fun k hk => ⟨hk.1, by omega⟩)) HI.out.b HI.out.b.size (by simp [shape59]; omega) ?_; intro v1 wz hs hb hg hat; have hown := fun k => ((Kd.S_R HI.out.lay).1 k); rw [← shape59_succ] at hs; obtain ⟨Av2, cv2, hv1⟩ := Kd.S_slice hs; subst hv1; have hfin := HI.out.finish hs hb (fun k hk hle => hg.block k hk (fun e_ => absurd (hown k e_.symm).1 (by omega))); have hc2 : wz.cell? ⟨gc + 1, 2, none⟩ = some (.slice Av nv cv) := ((blk_cell ((hg.block (gc + 1) (blk_lt HI.out.ad) (fun e_ => absurd (hown _ e_.symm).1 (by omega))).trans HI.out.ad) 2)).trans rfl; have hf2 := blk_frozen ((hg.block (gc + 1) (blk_lt HI.out.ad) (fun e_ => absurd (hown _ e_.symm).1 (by omega))).trans HI.out.ad) 2; have HF := Aside0.mk hfin; clear hfin hs hb hg hat hown hcx hcl0 hcl1 hcl2 hcl3))
            go_roundg (n - i - 1)
            case measure => omega
            case rel => exact ⟨i + 1, Av2, _, cv2, E4, _, _, by simp, by omega, HF⟩
          · have cb : decide ((i : Int) < (n : Int)) = false := decide_eq_false (by omega)
            obtain rfl : i = n := by omega
            have hz0 : wr.cell? ⟨w.heap.size + 1, 0, none⟩ = some (.int .i64 0) := (blk_cell HL.out.res 0).trans rfl
            have hz1 : wr.cell? ⟨w.heap.size + 1, 1, none⟩ = some (.int .i64 0) := (blk_cell HL.out.res 1).trans rfl
            have hz2 : wr.cell? ⟨w.heap.size + 1, 2, none⟩ = some (.slice none 0 0) := (blk_cell HL.out.res 2).trans rfl
            have hy0 : wr.cell? ⟨gc + 1, 0, none⟩ = some (.int .i64 a0) := (blk_cell HL.out.ad 0).trans rfl
            have hy1 : wr.cell? ⟨gc + 1, 1, none⟩ = some (.int .i64 a1) := (blk_cell HL.out.ad 1).trans rfl
            have hy2 : wr.cell? ⟨gc + 1, 2, none⟩ = some (.slice Av nv cv) := (blk_cell HL.out.ad 2).trans rfl
            have fz0 := blk_frozen HL.out.res 0
            have fz1 := blk_frozen HL.out.res 1
            have fz2 := blk_frozen HL.out.res 2
            go_wp2
            exact bodyPost_ret (v := .tuple #[.agg #[.int .i64 a0, .int .i64 a1, .slice Av nv cv], .int .i64 0]) (by simp [results, Try.results11, go_sem, hz0, hz1, hz2, fz0, fz1, fz2]) rfl ⟨_, rfl, HL.out.result _ _ _, below_set (below_set (below_set HL.out.b (Nat.le_succ _)) (Nat.le_succ _)) (Nat.le_succ _)⟩
      · rw [if_neg cn] at H
        exact absurd H (by simp)
    · rw [if_neg cl] at H
      simp only [Option.some.injEq, Prod.mk.injEq] at H
      obtain ⟨rfl, rfl, rfl, rfl⟩ := H
      have cl1 : ((l3.length : Int) != wrap64 (wrap64 (a2_2 * 4) * wrap64 (a0 * a2_0))) = true := bne_iff_ne.mpr cl
      go_enter Try.func11, Try.ntmps11
      go_wp2_with (first | ((with_reducible refine gate_callee (f := 30) rfl ?_); refine goesL_ (some 18) rfl rfl Try.func30 (by kernel_rfl) rfl #[.int .i64 a0, .int .i64 a1, .agg #[.int .i64 a2_0, .int .i64 a2_1, .int .i64 a2_2, .int .i64 a2_3, .int .i64 a2_4, .int .i64 a2_5, .int .i64 a2_6, .int .i64 a2_7]] rfl (by (try simp only [List.map_toArray, List.map_cons, List.map_nil]); first | done | rfl) ?_; (with_reducible refine (aviaryref10_ranges.calls k a0 a1 a2_0 a2_1 a2_2 a2_3 a2_4 a2_5 a2_6 a2_7 true _ HT.out).mono ?_); rintro e w1 ⟨rfl, hb⟩; refine ⟨_, rfl, ?_⟩; have HI := Aside0.mk (HI0.out.below hb); clear hb HI0; have hz0 : w1.cell? ⟨w.heap.size + 1, 0, none⟩ = some (.int .i64 0) := (blk_cell HI.out.b2 0).trans rfl; have hz1 : w1.cell? ⟨w.heap.size + 1, 1, none⟩ = some (.int .i64 0) := (blk_cell HI.out.b2 1).trans rfl; have hz2 : w1.cell? ⟨w.heap.size + 1, 2, none⟩ = some (.slice none 0 0) := (blk_cell HI.out.b2 2).trans rfl; have hc0 : w1.cell? ⟨w.heap.size, 0, none⟩ = some (.int .i64 a2_0) := (blk_cell HI.out.b1 0).trans rfl; have hc2 : w1.cell? ⟨w.heap.size, 2, none⟩ = some (.int .i64 a2_2) := (blk_cell HI.out.b1 2).trans rfl; have fz0 := blk_frozen HI.out.b2 0; have fz1 := blk_frozen HI.out.b2 1; have fz2 := blk_frozen HI.out.b2 2))
      exact bodyPost_ret (v := .tuple #[.agg #[.int .i64 0, .int .i64 0, .slice none 0 0], .int .i64 21]) (by simp [results, Try.results11, go_sem, hz0, hz1, hz2, fz0, fz1, fz2]) rfl ⟨_, rfl, ⟨fun _ => 0, Kd.R_nil _ _ _ _ _⟩, below_set (below_set (below_set HI.out.bl (Nat.le_succ _)) (Nat.le_succ _)) (Nat.le_succ _)⟩

/-! ### aviaryref08_Same: function 21 -/
def aviaryref08_Same.l0 : Nat → List Int → List Int → Int → Option (Bool)
  | 0, _, _, _ => none
  | k + 1, x0, x1, x5 => if x5 < (x0.length : Int) then (if 0 ≤ x5 then (if x5 < (x1.length : Int) then (if (rd x0 x5) = (rd x1 x5) then (aviaryref08_Same.l0 k x0 x1 (wrap64 (x5 + 1))) else (some false)) else (none)) else (none)) else (some true)
def aviaryref08_Same.f (k : Nat) (l0 : List Int) (l1 : List Int) : Option (Bool) := if (l0.length : Int) = (l1.length : Int) then (aviaryref08_Same.l0 k l0 l1 0) else (some false)
theorem aviaryref08_Same.mono_l : ∀ k, (∀ y0 y1 y2, LeO (aviaryref08_Same.l0 k y0 y1 y2) (aviaryref08_Same.l0 (k + 1) y0 y1 y2))
  | 0 => fun _ _ _ r h => by simp [aviaryref08_Same.l0] at h
  | k + 1 => by
    have ih0 := aviaryref08_Same.mono_l k
    · intro y0 y1 y2
      unfold aviaryref08_Same.l0
      repeat' first
      | (with_reducible exact ih0 _ _ _)
      | (with_reducible exact LeO.refl _)
      | (with_reducible exact LeO.none _)
      | (with_reducible refine LeO.ite ?_ ?_)
      | (with_reducible refine LeO.bind ?_ (fun _ => ?_))
      | exact ih0 _ _ _
      | exact LeO.none _
      | refine LeO.ite ?_ ?_
      | refine LeO.bind ?_ (fun _ => ?_)
theorem aviaryref08_Same.mono : ∀ a0 a1 k, LeO (aviaryref08_Same.f k a0 a1) (aviaryref08_Same.f (k + 1) a0 a1) := by
  intro a0 a1 k
  have ih0 := aviaryref08_Same.mono_l k
  unfold aviaryref08_Same.f
  repeat' first
      | (with_reducible exact ih0 _ _ _)
      | (with_reducible exact LeO.refl _)
      | (with_reducible exact LeO.none _)
      | (with_reducible refine LeO.ite ?_ ?_)
      | (with_reducible refine LeO.bind ?_ (fun _ => ?_))
      | exact ih0 _ _ _
      | exact LeO.none _
      | refine LeO.ite ?_ ?_
      | refine LeO.bind ?_ (fun _ => ?_)
set_option maxHeartbeats 8000000 in
set_option maxRecDepth 100000 in
theorem aviaryref08_Same.calls (k : Nat) (A0 : Option Addr) (c0 : Nat) (l0 : List Int) (A1 : Option Addr) (c1 : Nat) (l1 : List Int) (r : Bool) (w : World) (hr0 : Kd.C (Kd.int .i8) w A0 l0.length l0) (hc0 : l0.length ≤ c0) (hr1 : Kd.C (Kd.int .i8) w A1 l1.length l1) (hc1 : l1.length ≤ c1) (h : aviaryref08_Same.f k l0 l1 = some r) :
    Calls Try.prog 21 #[.slice A0 l0.length c0, .slice A1 l1.length c1] w fun e w' => e = .returned (.bool r) ∧ Drawn0 w w' := by
  have HR0 := Aside0.mk hr0
  have HC0 := Aside0.mk hc0
  clear hr0 hc0
  have HR1 := Aside0.mk hr1
  have HC1 := Aside0.mk hc1
  clear hr1 hc1
  have H : (if (l0.length : Int) = (l1.length : Int) then (aviaryref08_Same.l0 k l0 l1 0) else (some false)) = some r := h
  clear h
  by_cases c3 : (l0.length : Int) = (l1.length : Int)
  · rw [if_pos c3] at H
    have c3b0 : ((l0.length : Int) == (l1.length : Int)) = true := beq_iff_eq.mpr c3
    have c3b1 : ((l0.length : Int) != (l1.length : Int)) = false := bne_eq_false_iff_eq.mpr c3
    have c3b2 : (l0.length == l1.length) = true := by first | simpa using c3 | (simp at c3 ⊢; omega)
    clear c3
    have H' := Aside0.mk H
    clear H
    go_enter Try.func21, Try.ntmps21
    go_wp2
    repeat (go_quiet (fail); try go_wp2)
    go_loopg [5] k (fun kq v5 w' => ∃ (x5_1 : Int), v5 = .int .i64 x5_1 ∧ Aside0 (aviaryref08_Same.l0 kq l0 l1 x5_1 = some r) ∧ Aside0 (kq ≤ k) ∧ Drawn0 w w')
    case atStart => exact ⟨(0), (by first | rfl | (simp; done) | (simp [*]; done)), H', ⟨Nat.le_refl _⟩, by repeat (first | exact Drawn0.refl _ | apply Drawn0.step)⟩
    case round =>
      clear H'
      try clear c1
      try clear c2
      try clear p2
      try clear c3
      try clear c3b0
      try clear c3b1
      try clear c3b2
      obtain ⟨x5_1, rfl, HA, HK1, ⟨m1, rfl⟩⟩ := hrel
      cases gk with
      | zero => exact absurd HA.out (by simp [aviaryref08_Same.l0])
      | succ k1 =>
        have H := HA.out
        clear HA
        simp only [aviaryref08_Same.l0] at H
        by_cases c4 : x5_1 < (l0.length : Int)
        · rw [if_pos c4] at H
          have c4b0 : decide (x5_1 < (l0.length : Int)) = true := decide_eq_true c4
          clear c4
          by_cases c5 : 0 ≤ x5_1
          · rw [if_pos c5] at H
            have c5b0 : decide (0 ≤ x5_1) = true := decide_eq_true c5
            clear c5
            by_cases c6 : x5_1 < (l1.length : Int)
            · rw [if_pos c6] at H
              have c6b0 : decide (x5_1 < (l1.length : Int)) = true := decide_eq_true c6
              clear c6
              by_cases c7 : (rd l0 x5_1) = (rd l1 x5_1)
              · rw [if_pos c7] at H
                have c7b0 : ((rd l0 x5_1) == (rd l1 x5_1)) = true := beq_iff_eq.mpr c7
                have c7b1 : ((rd l0 x5_1) != (rd l1 x5_1)) = false := bne_eq_false_iff_eq.mpr c7
                clear c7
                have H' := Aside0.mk H
                clear H
                have p127 : 0 ≤ (x5_1 : Int) := of_decide_eq_true (by first | (with_reducible assumption) | assumption)
                have q127 : x5_1 < (l0.length : Int) := of_decide_eq_true (by first | (with_reducible assumption) | assumption)
                obtain ⟨ad127, e127, hx127_0⟩ := Kd.at_int HR0.out x5_1 p127 q127
                cases e127
                replace p127 := eq_true p127
                replace q127 := eq_true q127
                have p128 : 0 ≤ (x5_1 : Int) := of_decide_eq_true (by first | (with_reducible assumption) | assumption)
                have q128 : x5_1 < (l1.length : Int) := of_decide_eq_true (by first | (with_reducible assumption) | assumption)
                obtain ⟨ad128, e128, hx128_0⟩ := Kd.at_int HR1.out x5_1 p128 q128
                cases e128
                replace p128 := eq_true p128
                replace q128 := eq_true q128
                go_wp2
                repeat (go_quiet (fail); try go_wp2)
                go_roundg k1
                case measure => have := HK1.out; omega
                case rel => exact ⟨(wrap64 (x5_1 + 1)), (by first | rfl | (simp; done) | (simp [*]; done)), H', ⟨by have := HK1.out; omega⟩, by repeat (first | exact Drawn0.refl _ | apply Drawn0.step)⟩
              · rw [if_neg c7] at H
                have c7b0 : ((rd l0 x5_1) == (rd l1 x5_1)) = false := beq_eq_false_iff_ne.mpr c7
                have c7b1 : ((rd l0 x5_1) != (rd l1 x5_1)) = true := bne_iff_ne.mpr c7
                obtain rfl := Option.some.inj H
                have p127 : 0 ≤ (x5_1 : Int) := of_decide_eq_true (by first | (with_reducible assumption) | assumption)
                have q127 : x5_1 < (l0.length : Int) := of_decide_eq_true (by first | (with_reducible assumption) | assumption)
                obtain ⟨ad127, e127, hx127_0⟩ := Kd.at_int HR0.out x5_1 p127 q127
                cases e127
                replace p127 := eq_true p127
                replace q127 := eq_true q127
                have p128 : 0 ≤ (x5_1 : Int) := of_decide_eq_true (by first | (with_reducible assumption) | assumption)
                have q128 : x5_1 < (l1.length : Int) := of_decide_eq_true (by first | (with_reducible assumption) | assumption)
                obtain ⟨ad128, e128, hx128_0⟩ := Kd.at_int HR1.out x5_1 p128 q128
                cases e128
                replace p128 := eq_true p128
                replace q128 := eq_true q128
                go_wp2
                repeat (go_quiet (fail); try go_wp2)
                go_ret
                exact ⟨by first | rfl | (simp; done) | (simp [*]; done), by repeat (first | exact Drawn0.refl _ | apply Drawn0.step)⟩
            · rw [if_neg c6] at H
              exact absurd H (by simp)
          · rw [if_neg c5] at H
            exact absurd H (by simp)
        · rw [if_neg c4] at H
          have c4b0 : decide (x5_1 < (l0.length : Int)) = false := decide_eq_false c4
          clear c4
          obtain rfl := Option.some.inj H
          go_wp2
          repeat (go_quiet (fail); try go_wp2)
          go_ret
          exact ⟨by first | rfl | (simp; done) | (simp [*]; done), by repeat (first | exact Drawn0.refl _ | apply Drawn0.step)⟩
  · rw [if_neg c3] at H
    have c3b0 : ((l0.length : Int) == (l1.length : Int)) = false := beq_eq_false_iff_ne.mpr c3
    have c3b1 : ((l0.length : Int) != (l1.length : Int)) = true := bne_iff_ne.mpr c3
    have c3b2 : (l0.length == l1.length) = false := by first | simpa using c3 | (simp at c3 ⊢; omega)
    obtain rfl := Option.some.inj H
    go_enter Try.func21, Try.ntmps21
    go_wp2
    repeat (go_quiet (fail); try go_wp2)
    go_ret
    exact ⟨by first | rfl | (simp; done) | (simp [*]; done), by repeat (first | exact Drawn0.refl _ | apply Drawn0.step)⟩

end Go.Proofs.Ytekaiebfgcjddaa.PGraftShapes
