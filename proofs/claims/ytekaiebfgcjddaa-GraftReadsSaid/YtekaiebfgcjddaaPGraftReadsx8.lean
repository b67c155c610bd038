/- A text of the session: functions of the program and their walks, laid by a program of its own (wip/tools/mkprint.py) over the translation. No condition. -/
import Derived.Test.YtekaiebfgcjddaaPGraftReadsx0
import Derived.Test.YtekaiebfgcjddaaPGraftReadsx4
import Derived.Test.YtekaiebfgcjddaaPGraftReadsx7
namespace Go.Proofs.Ytekaiebfgcjddaa.PGraftReads
open Go.RowKit Go.Proofs.YtekaiebfgcjddaaW.PrintWords Go.Proofs.YtekaiebfgcjddaaW.PrintLast Go.Proofs.YtekaiebfgcjddaaW.PrintMore
attribute [local go_sem] max2_int min2_int max_two min_two max_three min_three max_four min_four   -- for this text's walks alone
set_option linter.unusedVariables false
set_option linter.unusedSimpArgs false

/-! ### aviaryref10_ranges: function 30 -/
def aviaryref10_ranges.f (k : Nat) (a0 : Int) (a1 : Int) (a2_0 : Int) (a2_1 : Int) (a2_2 : Int) (a2_3 : Int) (a2_4 : Int) (a2_5 : Int) (a2_6 : Int) (a2_7 : Int) : Option (Bool) := (aviaryref09_Config.f k a2_0 a2_1 a2_2 a2_3 a2_4 a2_5 a2_6 a2_7).bind fun t183 => (if t183 = true then (if a0 ≥ 1 then (if a0 ≤ 4 then (if a1 ≥ 0 then (some (decide (a1 ≤ 8))) else (some false)) else (some false)) else (some false)) else (some false))
theorem aviaryref10_ranges.mono : ∀ a0 a1 a2 a3 a4 a5 a6 a7 a8 a9 k, LeO (aviaryref10_ranges.f k a0 a1 a2 a3 a4 a5 a6 a7 a8 a9) (aviaryref10_ranges.f (k + 1) a0 a1 a2 a3 a4 a5 a6 a7 a8 a9) := by
  intro a0 a1 a2 a3 a4 a5 a6 a7 a8 a9 k
  unfold aviaryref10_ranges.f
  repeat' first
      | (with_reducible exact aviaryref09_Config.mono _ _ _ _ _ _ _ _ _)
      | (with_reducible exact LeO.refl _)
      | (with_reducible exact LeO.none _)
      | (with_reducible refine LeO.ite ?_ ?_)
      | (with_reducible refine LeO.bind ?_ (fun _ => ?_))
      | exact aviaryref09_Config.mono _ _ _ _ _ _ _ _ _
      | exact LeO.none _
      | refine LeO.ite ?_ ?_
      | refine LeO.bind ?_ (fun _ => ?_)
set_option maxHeartbeats 8000000 in
set_option maxRecDepth 100000 in
theorem aviaryref10_ranges.calls (k : Nat) (a0 : Int) (a1 : Int) (a2_0 : Int) (a2_1 : Int) (a2_2 : Int) (a2_3 : Int) (a2_4 : Int) (a2_5 : Int) (a2_6 : Int) (a2_7 : Int) (r : Bool) (w : World) (h : aviaryref10_ranges.f k a0 a1 a2_0 a2_1 a2_2 a2_3 a2_4 a2_5 a2_6 a2_7 = some r) :
    Calls Try.prog 30 #[.int .i64 a0, .int .i64 a1, .agg #[.int .i64 a2_0, .int .i64 a2_1, .int .i64 a2_2, .int .i64 a2_3, .int .i64 a2_4, .int .i64 a2_5, .int .i64 a2_6, .int .i64 a2_7]] w fun e w' => e = .returned (.bool r) ∧ Below w.heap.size w w' := by
  have hu23 := Try.underlying23
  have HB := Aside0.mk (Below.refl w.heap.size w)
  have H : ((aviaryref09_Config.f k a2_0 a2_1 a2_2 a2_3 a2_4 a2_5 a2_6 a2_7).bind fun t183 => (if t183 = true then (if a0 ≥ 1 then (if a0 ≤ 4 then (if a1 ≥ 0 then (some (decide (a1 ≤ 8))) else (some false)) else (some false)) else (some false)) else (some false))) = some r := h
  clear h
  replace H := Option.bind_eq_some_iff.mp H
  obtain ⟨t183, A40, H⟩ := H
  replace H : (if t183 = true then (if a0 ≥ 1 then (if a0 ≤ 4 then (if a1 ≥ 0 then (some (decide (a1 ≤ 8))) else (some false)) else (some false)) else (some false)) else (some false)) = some r := H
  have A4 := Aside0.mk A40
  clear A40
  by_cases c5 : t183 = true
  · subst c5
    have H1 : (if a0 ≥ 1 then (if a0 ≤ 4 then (if a1 ≥ 0 then (some (decide (a1 ≤ 8))) else (some false)) else (some false)) else (some false)) = some r := by rw [if_pos rfl] at H; exact H
    clear H
    have H := H1
    clear H1
    by_cases c6 : a0 ≥ 1
    · rw [if_pos c6] at H
      have c6b0 : decide (1 ≤ a0) = true := decide_eq_true c6
      clear c6
      by_cases c7 : a0 ≤ 4
      · rw [if_pos c7] at H
        have c7b0 : decide (a0 ≤ 4) = true := decide_eq_true c7
        clear c7
        by_cases c8 : a1 ≥ 0
        · rw [if_pos c8] at H
          have c8b0 : decide (0 ≤ a1) = true := decide_eq_true c8
          clear c8
          obtain rfl := Option.some.inj H
          go_enter Try.func30, Try.ntmps30
          go_wp2_with (first | ((with_reducible refine gate_dst (N := 5) rfl ?_); refine box_event ?hg (N := 5) ?hd (cs := #[.int .i64 a2_0, .int .i64 a2_1, .int .i64 a2_2, .int .i64 a2_3, .int .i64 a2_4, .int .i64 a2_5, .int .i64 a2_6, .int .i64 a2_7]) (t := 23) ?hr ?_; (case hd => rfl); (case hg => rfl); (case hr => first | (go_simp; done) | (go_simp; rfl)); intro gb182 hg w9 hbox hb; have n0_ := Aside0.mk (below_step (by repeat (first | (with_reducible first | exact HB.out | apply below_alloc | apply pw_below_drewN | apply below_drew1) | exact HB.out)) hb); have n1_ := Aside0.mk (hbox); have n2_ := Aside0.mk ((by rw [hg]; exact (below_size (by repeat (first | (with_reducible first | exact HB.out | apply below_alloc | apply pw_below_drewN | apply below_drew1) | exact HB.out))) : w.heap.size ≤ gb182)); have n3_ := Aside0.mk ((by rw [hg]; exact (below_size (by repeat (first | (with_reducible first | exact HB.out | apply below_alloc | apply pw_below_drewN | apply below_drew1) | exact HB.out))) : w.heap.size ≤ gb182)); clear HB; have HB := n0_; have BK182 := n1_; have GW182 := n2_; have GE182 := n3_; clear n0_ n1_ n2_ n3_; clear hb hbox hg; have hcz10_0 : w9.cell? ⟨gb182, 0, none⟩ = some (.int .i64 a2_0) := (blk_cell BK182.out 0).trans rfl; have hcz10_1 : w9.cell? ⟨gb182, 1, none⟩ = some (.int .i64 a2_1) := (blk_cell BK182.out 1).trans rfl; have hcz10_2 : w9.cell? ⟨gb182, 2, none⟩ = some (.int .i64 a2_2) := (blk_cell BK182.out 2).trans rfl; have hcz10_3 : w9.cell? ⟨gb182, 3, none⟩ = some (.int .i64 a2_3) := (blk_cell BK182.out 3).trans rfl; have hcz10_4 : w9.cell? ⟨gb182, 4, none⟩ = some (.int .i64 a2_4) := (blk_cell BK182.out 4).trans rfl; have hcz10_5 : w9.cell? ⟨gb182, 5, none⟩ = some (.int .i64 a2_5) := (blk_cell BK182.out 5).trans rfl; have hcz10_6 : w9.cell? ⟨gb182, 6, none⟩ = some (.int .i64 a2_6) := (blk_cell BK182.out 6).trans rfl; have hcz10_7 : w9.cell? ⟨gb182, 7, none⟩ = some (.int .i64 a2_7) := (blk_cell BK182.out 7).trans rfl; have hfz10_0 := blk_frozen BK182.out 0; have hfz10_1 := blk_frozen BK182.out 1; have hfz10_2 := blk_frozen BK182.out 2; have hfz10_3 := blk_frozen BK182.out 3; have hfz10_4 := blk_frozen BK182.out 4; have hfz10_5 := blk_frozen BK182.out 5; have hfz10_6 := blk_frozen BK182.out 6; have hfz10_7 := blk_frozen BK182.out 7) | ((with_reducible refine gate_callee (f := 27) rfl ?_); refine goesL_ (some 8) rfl rfl Try.func27 (by kernel_rfl) rfl #[.agg #[.int .i64 a2_0, .int .i64 a2_1, .int .i64 a2_2, .int .i64 a2_3, .int .i64 a2_4, .int .i64 a2_5, .int .i64 a2_6, .int .i64 a2_7]] rfl (by (try simp only [List.map_toArray, List.map_cons, List.map_nil]); first | done | rfl | (simp only [List.length_drop, List.length_take]; rfl)) ?_; (with_reducible refine (aviaryref09_Config.calls k a2_0 a2_1 a2_2 a2_3 a2_4 a2_5 a2_6 a2_7 true _ A4.out).mono ?_); rintro e w11 ⟨rfl, hb⟩; refine ⟨_, rfl, ?_⟩; have n0_ := Aside0.mk (blk_below (g := gb182) (o := .cells #[.int .i64 a2_0, .int .i64 a2_1, .int .i64 a2_2, .int .i64 a2_3, .int .i64 a2_4, .int .i64 a2_5, .int .i64 a2_6, .int .i64 a2_7] 23 (0, 0)) (by (with_reducible repeat (first | refine blk_drewN ?_ _ | refine blk_drew ?_ | refine blk_alloc ?_ _)); exact BK182.out) hb); have n1_ := Aside0.mk (below_step (by repeat (first | (with_reducible first | exact HB.out | apply below_alloc | apply pw_below_drewN | apply below_drew1 | refine below_set ?_ GE182.out) | exact HB.out)) hb); clear BK182; clear HB; have BK182 := n0_; have HB := n1_; clear n0_ n1_; (try clear hb); (try clear hb2); (try clear hk); (try clear hi)))
          go_ret
          exact ⟨by first | rfl | (simp [errW_none, errW_some] <;> rfl) | (simp [*, errW_none, errW_some] <;> rfl), by repeat (first | (with_reducible first | exact HB.out | apply below_alloc | apply pw_below_drewN | apply below_drew1 | refine below_set ?_ GE182.out) | exact HB.out)⟩
        · rw [if_neg c8] at H
          have c8b0 : decide (0 ≤ a1) = false := decide_eq_false c8
          clear c8
          obtain rfl := Option.some.inj H
          go_enter Try.func30, Try.ntmps30
          go_wp2_with (first | ((with_reducible refine gate_dst (N := 5) rfl ?_); refine box_event ?hg (N := 5) ?hd (cs := #[.int .i64 a2_0, .int .i64 a2_1, .int .i64 a2_2, .int .i64 a2_3, .int .i64 a2_4, .int .i64 a2_5, .int .i64 a2_6, .int .i64 a2_7]) (t := 23) ?hr ?_; (case hd => rfl); (case hg => rfl); (case hr => first | (go_simp; done) | (go_simp; rfl)); intro gb182 hg w12 hbox hb; have n0_ := Aside0.mk (below_step (by repeat (first | (with_reducible first | exact HB.out | apply below_alloc | apply pw_below_drewN | apply below_drew1) | exact HB.out)) hb); have n1_ := Aside0.mk (hbox); have n2_ := Aside0.mk ((by rw [hg]; exact (below_size (by repeat (first | (with_reducible first | exact HB.out | apply below_alloc | apply pw_below_drewN | apply below_drew1) | exact HB.out))) : w.heap.size ≤ gb182)); have n3_ := Aside0.mk ((by rw [hg]; exact (below_size (by repeat (first | (with_reducible first | exact HB.out | apply below_alloc | apply pw_below_drewN | apply below_drew1) | exact HB.out))) : w.heap.size ≤ gb182)); clear HB; have HB := n0_; have BK182 := n1_; have GW182 := n2_; have GE182 := n3_; clear n0_ n1_ n2_ n3_; clear hb hbox hg; have hcz13_0 : w12.cell? ⟨gb182, 0, none⟩ = some (.int .i64 a2_0) := (blk_cell BK182.out 0).trans rfl; have hcz13_1 : w12.cell? ⟨gb182, 1, none⟩ = some (.int .i64 a2_1) := (blk_cell BK182.out 1).trans rfl; have hcz13_2 : w12.cell? ⟨gb182, 2, none⟩ = some (.int .i64 a2_2) := (blk_cell BK182.out 2).trans rfl; have hcz13_3 : w12.cell? ⟨gb182, 3, none⟩ = some (.int .i64 a2_3) := (blk_cell BK182.out 3).trans rfl; have hcz13_4 : w12.cell? ⟨gb182, 4, none⟩ = some (.int .i64 a2_4) := (blk_cell BK182.out 4).trans rfl; have hcz13_5 : w12.cell? ⟨gb182, 5, none⟩ = some (.int .i64 a2_5) := (blk_cell BK182.out 5).trans rfl; have hcz13_6 : w12.cell? ⟨gb182, 6, none⟩ = some (.int .i64 a2_6) := (blk_cell BK182.out 6).trans rfl; have hcz13_7 : w12.cell? ⟨gb182, 7, none⟩ = some (.int .i64 a2_7) := (blk_cell BK182.out 7).trans rfl; have hfz13_0 := blk_frozen BK182.out 0; have hfz13_1 := blk_frozen BK182.out 1; have hfz13_2 := blk_frozen BK182.out 2; have hfz13_3 := blk_frozen BK182.out 3; have hfz13_4 := blk_frozen BK182.out 4; have hfz13_5 := blk_frozen BK182.out 5; have hfz13_6 := blk_frozen BK182.out 6; have hfz13_7 := blk_frozen BK182.out 7) | ((with_reducible refine gate_callee (f := 27) rfl ?_); refine goesL_ (some 8) rfl rfl Try.func27 (by kernel_rfl) rfl #[.agg #[.int .i64 a2_0, .int .i64 a2_1, .int .i64 a2_2, .int .i64 a2_3, .int .i64 a2_4, .int .i64 a2_5, .int .i64 a2_6, .int .i64 a2_7]] rfl (by (try simp only [List.map_toArray, List.map_cons, List.map_nil]); first | done | rfl | (simp only [List.length_drop, List.length_take]; rfl)) ?_; (with_reducible refine (aviaryref09_Config.calls k a2_0 a2_1 a2_2 a2_3 a2_4 a2_5 a2_6 a2_7 true _ A4.out).mono ?_); rintro e w14 ⟨rfl, hb⟩; refine ⟨_, rfl, ?_⟩; have n0_ := Aside0.mk (blk_below (g := gb182) (o := .cells #[.int .i64 a2_0, .int .i64 a2_1, .int .i64 a2_2, .int .i64 a2_3, .int .i64 a2_4, .int .i64 a2_5, .int .i64 a2_6, .int .i64 a2_7] 23 (0, 0)) (by (with_reducible repeat (first | refine blk_drewN ?_ _ | refine blk_drew ?_ | refine blk_alloc ?_ _)); exact BK182.out) hb); have n1_ := Aside0.mk (below_step (by repeat (first | (with_reducible first | exact HB.out | apply below_alloc | apply pw_below_drewN | apply below_drew1 | refine below_set ?_ GE182.out) | exact HB.out)) hb); clear BK182; clear HB; have BK182 := n0_; have HB := n1_; clear n0_ n1_; (try clear hb); (try clear hb2); (try clear hk); (try clear hi)))
          go_ret
          exact ⟨by first | rfl | (simp [errW_none, errW_some] <;> rfl) | (simp [*, errW_none, errW_some] <;> rfl), by repeat (first | (with_reducible first | exact HB.out | apply below_alloc | apply pw_below_drewN | apply below_drew1 | refine below_set ?_ GE182.out) | exact HB.out)⟩
      · rw [if_neg c7] at H
        have c7b0 : decide (a0 ≤ 4) = false := decide_eq_false c7
        clear c7
        obtain rfl := Option.some.inj H
        go_enter Try.func30, Try.ntmps30
        go_wp2_with (first | ((with_reducible refine gate_dst (N := 5) rfl ?_); refine box_event ?hg (N := 5) ?hd (cs := #[.int .i64 a2_0, .int .i64 a2_1, .int .i64 a2_2, .int .i64 a2_3, .int .i64 a2_4, .int .i64 a2_5, .int .i64 a2_6, .int .i64 a2_7]) (t := 23) ?hr ?_; (case hd => rfl); (case hg => rfl); (case hr => first | (go_simp; done) | (go_simp; rfl)); intro gb182 hg w15 hbox hb; have n0_ := Aside0.mk (below_step (by repeat (first | (with_reducible first | exact HB.out | apply below_alloc | apply pw_below_drewN | apply below_drew1) | exact HB.out)) hb); have n1_ := Aside0.mk (hbox); have n2_ := Aside0.mk ((by rw [hg]; exact (below_size (by repeat (first | (with_reducible first | exact HB.out | apply below_alloc | apply pw_below_drewN | apply below_drew1) | exact HB.out))) : w.heap.size ≤ gb182)); have n3_ := Aside0.mk ((by rw [hg]; exact (below_size (by repeat (first | (with_reducible first | exact HB.out | apply below_alloc | apply pw_below_drewN | apply below_drew1) | exact HB.out))) : w.heap.size ≤ gb182)); clear HB; have HB := n0_; have BK182 := n1_; have GW182 := n2_; have GE182 := n3_; clear n0_ n1_ n2_ n3_; clear hb hbox hg; have hcz16_0 : w15.cell? ⟨gb182, 0, none⟩ = some (.int .i64 a2_0) := (blk_cell BK182.out 0).trans rfl; have hcz16_1 : w15.cell? ⟨gb182, 1, none⟩ = some (.int .i64 a2_1) := (blk_cell BK182.out 1).trans rfl; have hcz16_2 : w15.cell? ⟨gb182, 2, none⟩ = some (.int .i64 a2_2) := (blk_cell BK182.out 2).trans rfl; have hcz16_3 : w15.cell? ⟨gb182, 3, none⟩ = some (.int .i64 a2_3) := (blk_cell BK182.out 3).trans rfl; have hcz16_4 : w15.cell? ⟨gb182, 4, none⟩ = some (.int .i64 a2_4) := (blk_cell BK182.out 4).trans rfl; have hcz16_5 : w15.cell? ⟨gb182, 5, none⟩ = some (.int .i64 a2_5) := (blk_cell BK182.out 5).trans rfl; have hcz16_6 : w15.cell? ⟨gb182, 6, none⟩ = some (.int .i64 a2_6) := (blk_cell BK182.out 6).trans rfl; have hcz16_7 : w15.cell? ⟨gb182, 7, none⟩ = some (.int .i64 a2_7) := (blk_cell BK182.out 7).trans rfl; have hfz16_0 := blk_frozen BK182.out 0; have hfz16_1 := blk_frozen BK182.out 1; have hfz16_2 := blk_frozen BK182.out 2; have hfz16_3 := blk_frozen BK182.out 3; have hfz16_4 := blk_frozen BK182.out 4; have hfz16_5 := blk_frozen BK182.out 5; have hfz16_6 := blk_frozen BK182.out 6; have hfz16_7 := blk_frozen BK182.out 7) | ((with_reducible refine gate_callee (f := 27) rfl ?_); refine goesL_ (some 8) rfl rfl Try.func27 (by kernel_rfl) rfl #[.agg #[.int .i64 a2_0, .int .i64 a2_1, .int .i64 a2_2, .int .i64 a2_3, .int .i64 a2_4, .int .i64 a2_5, .int .i64 a2_6, .int .i64 a2_7]] rfl (by (try simp only [List.map_toArray, List.map_cons, List.map_nil]); first | done | rfl | (simp only [List.length_drop, List.length_take]; rfl)) ?_; (with_reducible refine (aviaryref09_Config.calls k a2_0 a2_1 a2_2 a2_3 a2_4 a2_5 a2_6 a2_7 true _ A4.out).mono ?_); rintro e w17 ⟨rfl, hb⟩; refine ⟨_, rfl, ?_⟩; have n0_ := Aside0.mk (blk_below (g := gb182) (o := .cells #[.int .i64 a2_0, .int .i64 a2_1, .int .i64 a2_2, .int .i64 a2_3, .int .i64 a2_4, .int .i64 a2_5, .int .i64 a2_6, .int .i64 a2_7] 23 (0, 0)) (by (with_reducible repeat (first | refine blk_drewN ?_ _ | refine blk_drew ?_ | refine blk_alloc ?_ _)); exact BK182.out) hb); have n1_ := Aside0.mk (below_step (by repeat (first | (with_reducible first | exact HB.out | apply below_alloc | apply pw_below_drewN | apply below_drew1 | refine below_set ?_ GE182.out) | exact HB.out)) hb); clear BK182; clear HB; have BK182 := n0_; have HB := n1_; clear n0_ n1_; (try clear hb); (try clear hb2); (try clear hk); (try clear hi)))
        go_ret
        exact ⟨by first | rfl | (simp [errW_none, errW_some] <;> rfl) | (simp [*, errW_none, errW_some] <;> rfl), by repeat (first | (with_reducible first | exact HB.out | apply below_alloc | apply pw_below_drewN | apply below_drew1 | refine below_set ?_ GE182.out) | exact HB.out)⟩
    · rw [if_neg c6] at H
      have c6b0 : decide (1 ≤ a0) = false := decide_eq_false c6
      clear c6
      obtain rfl := Option.some.inj H
      go_enter Try.func30, Try.ntmps30
      go_wp2_with (first | ((with_reducible refine gate_dst (N := 5) rfl ?_); refine box_event ?hg (N := 5) ?hd (cs := #[.int .i64 a2_0, .int .i64 a2_1, .int .i64 a2_2, .int .i64 a2_3, .int .i64 a2_4, .int .i64 a2_5, .int .i64 a2_6, .int .i64 a2_7]) (t := 23) ?hr ?_; (case hd => rfl); (case hg => rfl); (case hr => first | (go_simp; done) | (go_simp; rfl)); intro gb182 hg w18 hbox hb; have n0_ := Aside0.mk (below_step (by repeat (first | (with_reducible first | exact HB.out | apply below_alloc | apply pw_below_drewN | apply below_drew1) | exact HB.out)) hb); have n1_ := Aside0.mk (hbox); have n2_ := Aside0.mk ((by rw [hg]; exact (below_size (by repeat (first | (with_reducible first | exact HB.out | apply below_alloc | apply pw_below_drewN | apply below_drew1) | exact HB.out))) : w.heap.size ≤ gb182)); have n3_ := Aside0.mk ((by rw [hg]; exact (below_size (by repeat (first | (with_reducible first | exact HB.out | apply below_alloc | apply pw_below_drewN | apply below_drew1) | exact HB.out))) : w.heap.size ≤ gb182)); clear HB; have HB := n0_; have BK182 := n1_; have GW182 := n2_; have GE182 := n3_; clear n0_ n1_ n2_ n3_; clear hb hbox hg; have hcz19_0 : w18.cell? ⟨gb182, 0, none⟩ = some (.int .i64 a2_0) := (blk_cell BK182.out 0).trans rfl; have hcz19_1 : w18.cell? ⟨gb182, 1, none⟩ = some (.int .i64 a2_1) := (blk_cell BK182.out 1).trans rfl; have hcz19_2 : w18.cell? ⟨gb182, 2, none⟩ = some (.int .i64 a2_2) := (blk_cell BK182.out 2).trans rfl; have hcz19_3 : w18.cell? ⟨gb182, 3, none⟩ = some (.int .i64 a2_3) := (blk_cell BK182.out 3).trans rfl; have hcz19_4 : w18.cell? ⟨gb182, 4, none⟩ = some (.int .i64 a2_4) := (blk_cell BK182.out 4).trans rfl; have hcz19_5 : w18.cell? ⟨gb182, 5, none⟩ = some (.int .i64 a2_5) := (blk_cell BK182.out 5).trans rfl; have hcz19_6 : w18.cell? ⟨gb182, 6, none⟩ = some (.int .i64 a2_6) := (blk_cell BK182.out 6).trans rfl; have hcz19_7 : w18.cell? ⟨gb182, 7, none⟩ = some (.int .i64 a2_7) := (blk_cell BK182.out 7).trans rfl; have hfz19_0 := blk_frozen BK182.out 0; have hfz19_1 := blk_frozen BK182.out 1; have hfz19_2 := blk_frozen BK182.out 2; have hfz19_3 := blk_frozen BK182.out 3; have hfz19_4 := blk_frozen BK182.out 4; have hfz19_5 := blk_frozen BK182.out 5; have hfz19_6 := blk_frozen BK182.out 6; have hfz19_7 := blk_frozen BK182.out 7) | ((with_reducible refine gate_callee (f := 27) rfl ?_); refine goesL_ (some 8) rfl rfl Try.func27 (by kernel_rfl) rfl #[.agg #[.int .i64 a2_0, .int .i64 a2_1, .int .i64 a2_2, .int .i64 a2_3, .int .i64 a2_4, .int .i64 a2_5, .int .i64 a2_6, .int .i64 a2_7]] rfl (by (try simp only [List.map_toArray, List.map_cons, List.map_nil]); first | done | rfl | (simp only [List.length_drop, List.length_take]; rfl)) ?_; (with_reducible refine (aviaryref09_Config.calls k a2_0 a2_1 a2_2 a2_3 a2_4 a2_5 a2_6 a2_7 true _ A4.out).mono ?_); rintro e w20 ⟨rfl, hb⟩; refine ⟨_, rfl, ?_⟩; have n0_ := Aside0.mk (blk_below (g := gb182) (o := .cells #[.int .i64 a2_0, .int .i64 a2_1, .int .i64 a2_2, .int .i64 a2_3, .int .i64 a2_4, .int .i64 a2_5, .int .i64 a2_6, .int .i64 a2_7] 23 (0, 0)) (by (with_reducible repeat (first | refine blk_drewN ?_ _ | refine blk_drew ?_ | refine blk_alloc ?_ _)); exact BK182.out) hb); have n1_ := Aside0.mk (below_step (by repeat (first | (with_reducible first | exact HB.out | apply below_alloc | apply pw_below_drewN | apply below_drew1 | refine below_set ?_ GE182.out) | exact HB.out)) hb); clear BK182; clear HB; have BK182 := n0_; have HB := n1_; clear n0_ n1_; (try clear hb); (try clear hb2); (try clear hk); (try clear hi)))
      go_ret
      exact ⟨by first | rfl | (simp [errW_none, errW_some] <;> rfl) | (simp [*, errW_none, errW_some] <;> rfl), by repeat (first | (with_reducible first | exact HB.out | apply below_alloc | apply pw_below_drewN | apply below_drew1 | refine below_set ?_ GE182.out) | exact HB.out)⟩
  · replace c5 := Bool.eq_false_iff.mpr c5
    subst c5
    have H1 : (some false) = some r := by rw [if_neg (show ¬ (false = true) by decide)] at H; exact H
    clear H
    have H := H1
    clear H1
    obtain rfl := Option.some.inj H
    go_enter Try.func30, Try.ntmps30
    go_wp2_with (first | ((with_reducible refine gate_dst (N := 5) rfl ?_); refine box_event ?hg (N := 5) ?hd (cs := #[.int .i64 a2_0, .int .i64 a2_1, .int .i64 a2_2, .int .i64 a2_3, .int .i64 a2_4, .int .i64 a2_5, .int .i64 a2_6, .int .i64 a2_7]) (t := 23) ?hr ?_; (case hd => rfl); (case hg => rfl); (case hr => first | (go_simp; done) | (go_simp; rfl)); intro gb182 hg w21 hbox hb; have n0_ := Aside0.mk (below_step (by repeat (first | (with_reducible first | exact HB.out | apply below_alloc | apply pw_below_drewN | apply below_drew1) | exact HB.out)) hb); have n1_ := Aside0.mk (hbox); have n2_ := Aside0.mk ((by rw [hg]; exact (below_size (by repeat (first | (with_reducible first | exact HB.out | apply below_alloc | apply pw_below_drewN | apply below_drew1) | exact HB.out))) : w.heap.size ≤ gb182)); have n3_ := Aside0.mk ((by rw [hg]; exact (below_size (by repeat (first | (with_reducible first | exact HB.out | apply below_alloc | apply pw_below_drewN | apply below_drew1) | exact HB.out))) : w.heap.size ≤ gb182)); clear HB; have HB := n0_; have BK182 := n1_; have GW182 := n2_; have GE182 := n3_; clear n0_ n1_ n2_ n3_; clear hb hbox hg; have hcz22_0 : w21.cell? ⟨gb182, 0, none⟩ = some (.int .i64 a2_0) := (blk_cell BK182.out 0).trans rfl; have hcz22_1 : w21.cell? ⟨gb182, 1, none⟩ = some (.int .i64 a2_1) := (blk_cell BK182.out 1).trans rfl; have hcz22_2 : w21.cell? ⟨gb182, 2, none⟩ = some (.int .i64 a2_2) := (blk_cell BK182.out 2).trans rfl; have hcz22_3 : w21.cell? ⟨gb182, 3, none⟩ = some (.int .i64 a2_3) := (blk_cell BK182.out 3).trans rfl; have hcz22_4 : w21.cell? ⟨gb182, 4, none⟩ = some (.int .i64 a2_4) := (blk_cell BK182.out 4).trans rfl; have hcz22_5 : w21.cell? ⟨gb182, 5, none⟩ = some (.int .i64 a2_5) := (blk_cell BK182.out 5).trans rfl; have hcz22_6 : w21.cell? ⟨gb182, 6, none⟩ = some (.int .i64 a2_6) := (blk_cell BK182.out 6).trans rfl; have hcz22_7 : w21.cell? ⟨gb182, 7, none⟩ = some (.int .i64 a2_7) := (blk_cell BK182.out 7).trans rfl; have hfz22_0 := blk_frozen BK182.out 0; have hfz22_1 := blk_frozen BK182.out 1; have hfz22_2 := blk_frozen BK182.out 2; have hfz22_3 := blk_frozen BK182.out 3; have hfz22_4 := blk_frozen BK182.out 4; have hfz22_5 := blk_frozen BK182.out 5; have hfz22_6 := blk_frozen BK182.out 6; have hfz22_7 := blk_frozen BK182.out 7) | ((with_reducible refine gate_callee (f := 27) rfl ?_); refine goesL_ (some 8) rfl rfl Try.func27 (by kernel_rfl) rfl #[.agg #[.int .i64 a2_0, .int .i64 a2_1, .int .i64 a2_2, .int .i64 a2_3, .int .i64 a2_4, .int .i64 a2_5, .int .i64 a2_6, .int .i64 a2_7]] rfl (by (try simp only [List.map_toArray, List.map_cons, List.map_nil]); first | done | rfl | (simp only [List.length_drop, List.length_take]; rfl)) ?_; (with_reducible refine (aviaryref09_Config.calls k a2_0 a2_1 a2_2 a2_3 a2_4 a2_5 a2_6 a2_7 false _ A4.out).mono ?_); rintro e w23 ⟨rfl, hb⟩; refine ⟨_, rfl, ?_⟩; have n0_ := Aside0.mk (blk_below (g := gb182) (o := .cells #[.int .i64 a2_0, .int .i64 a2_1, .int .i64 a2_2, .int .i64 a2_3, .int .i64 a2_4, .int .i64 a2_5, .int .i64 a2_6, .int .i64 a2_7] 23 (0, 0)) (by (with_reducible repeat (first | refine blk_drewN ?_ _ | refine blk_drew ?_ | refine blk_alloc ?_ _)); exact BK182.out) hb); have n1_ := Aside0.mk (below_step (by repeat (first | (with_reducible first | exact HB.out | apply below_alloc | apply pw_below_drewN | apply below_drew1 | refine below_set ?_ GE182.out) | exact HB.out)) hb); clear BK182; clear HB; have BK182 := n0_; have HB := n1_; clear n0_ n1_; (try clear hb); (try clear hb2); (try clear hk); (try clear hi)))
    go_ret
    exact ⟨by first | rfl | (simp [errW_none, errW_some] <;> rfl) | (simp [*, errW_none, errW_some] <;> rfl), by repeat (first | (with_reducible first | exact HB.out | apply below_alloc | apply pw_below_drewN | apply below_drew1 | refine below_set ?_ GE182.out) | exact HB.out)⟩

/-! ### aviaryref09_Cut_Next: function 31 -/
def aviaryref09_Cut_Next.f (l0 : List Int) (a1 : Int) : Option (List Int) := (some (([] : List Int) : List Int)).bind fun y101 => (if 0 ≤ a1 then (if a1 ≤ (l0.length : Int) then (if y101.length + (l0.take (a1 : Int).toNat).length < 140737488355328 then (some (y101 ++ (l0.take (a1 : Int).toNat))) else (none)) else (none)) else (none))
set_option maxHeartbeats 8000000 in
set_option maxRecDepth 100000 in
theorem aviaryref09_Cut_Next.calls (A0 : Option Addr) (c0 : Nat) (l0 : List Int) (a1 : Int) (r : List Int) (w : World) (g : Nat) (hg0 : w.heap[g]? = some (.cells #[.slice A0 l0.length c0] 62 (0, 0))) (hr0 : Kd.C (Kd.int .i8) w A0 l0.length l0) (hc0 : l0.length ≤ c0) (h : aviaryref09_Cut_Next.f l0 a1 = some r) :
    Calls Try.prog 31 #[.pointer (some ⟨g, 0, none⟩), .int .i64 a1] w fun e w' => ∃ (v0_ : Value) (A' : Option Addr) (w1 : World), e = .returned (v0_) ∧ Kd.R (Kd.int .i8) 69 w' w.heap.size (fun _ => True) v0_ r ∧ (∀ W : World, Kd.C (Kd.int .i8) W A0 l0.length l0 → Kd.C (Kd.int .i8) W A' (l0.drop a1.toNat).length (l0.drop a1.toNat)) ∧ (l0.drop a1.toNat).length ≤ c0 - a1.toNat ∧ Below w.heap.size w w1 ∧ w' = w1.setCell ⟨g, 0, none⟩ (.slice A' (l0.drop a1.toNat).length (c0 - a1.toNat)) := by
  have hu62 := Try.underlying62
  have GG := Aside0.mk hg0
  clear hg0
  have HR0 := Aside0.mk hr0
  have HC0 := Aside0.mk hc0
  clear hr0 hc0
  have HB := Aside0.mk (Below.refl w.heap.size w)
  have H : ((some (([] : List Int) : List Int)).bind fun y101 => (if 0 ≤ a1 then (if a1 ≤ (l0.length : Int) then (if y101.length + (l0.take (a1 : Int).toNat).length < 140737488355328 then (some (y101 ++ (l0.take (a1 : Int).toNat))) else (none)) else (none)) else (none))) = some r := h
  clear h
  obtain ⟨y101, hy101⟩ : ∃ y_ : List Int, y_ = (([] : List Int)) := ⟨_, rfl⟩
  replace H : (if 0 ≤ a1 then (if a1 ≤ (l0.length : Int) then (if y101.length + (l0.take (a1 : Int).toNat).length < 140737488355328 then (some (y101 ++ (l0.take (a1 : Int).toNat))) else (none)) else (none)) else (none)) = some r := by first | (rw [hy101]; with_reducible exact H) | (have H2_ := (Option.bind_some _ _).symm.trans H; rw [hy101]; with_reducible exact H2_) | (have H2_ := (Option.bind_some _ _).symm.trans H; with_reducible exact H2_) | with_reducible exact H | (rw [hy101]; exact H) | exact H
  have Ny101 := Aside0.mk hy101
  clear hy101
  by_cases c3 : 0 ≤ a1
  · rw [if_pos c3] at H
    have c3b0 := eq_true c3
    have c3b1 : decide (0 ≤ a1) = true := decide_eq_true c3
    clear c3
    by_cases c4 : a1 ≤ (l0.length : Int)
    · rw [if_pos c4] at H
      have c4b0 := eq_true c4
      have c4b1 : decide (a1 ≤ (l0.length : Int)) = true := decide_eq_true c4
      clear c4
      by_cases c5 : y101.length + (l0.take (a1 : Int).toNat).length < 140737488355328
      · rw [if_pos c5] at H
        have LMc5 := Aside0.mk c5
        clear c5
        obtain ⟨y105, hy105⟩ : ∃ y_ : List Int, y_ = (y101 ++ (l0.take (a1 : Int).toNat)) := ⟨_, rfl⟩
        replace H : (some y105) = some r := by first | (rw [hy105]; with_reducible exact H) | (have H2_ := (Option.bind_some _ _).symm.trans H; rw [hy105]; with_reducible exact H2_) | (have H2_ := (Option.bind_some _ _).symm.trans H; with_reducible exact H2_) | with_reducible exact H | (rw [hy105]; exact H) | exact H
        have Ny105 := Aside0.mk hy105
        clear hy105
        obtain rfl := Option.some.inj H
        have z0 : 0 ≤ a1 := of_decide_eq_true c3b1
        have z1 : a1 ≤ (l0.length : Int) := of_decide_eq_true c4b1
        obtain ⟨A', hcut, hcr, hcl⟩ : ∃ A' : Option Addr, (∀ W : World, (Instr.slice 24 (.slice A0 l0.length c0) (some (.int .i64 a1)) none none).run Try.prog W = .ok (.slice A' (l0.drop a1.toNat).length (c0 - a1.toNat)) W) ∧ (∀ W : World, Kd.C (Kd.int .i8) W A0 l0.length l0 → Kd.C (Kd.int .i8) W A' (l0.drop a1.toNat).length (l0.drop a1.toNat)) ∧ (l0.drop a1.toNat).length ≤ c0 - a1.toNat := by
          obtain ⟨iq, hiq, _, hszq, _⟩ := info_parts info69
          obtain ⟨A', q1, q2⟩ := print_cut_of (P := Try.prog) (Value.int .i8) 0 24 69 .i64 Try.underlying24 hiq hszq A0 l0.length c0 a1.toNat (by omega)
          have q3 := HC0.out
          refine ⟨A', fun W => ?_, fun W h => ?_, by rw [List.length_drop]; omega⟩
          · have q4 := q1 W
            rw [Int.toNat_of_nonneg z0] at q4
            rw [List.length_drop]
            exact q4
          · have q5 := q2 W l0 q3 (Kd.reads_of_C h)
            rw [← List.length_drop] at q5
            exact Kd.C_of_reads (h1 := fun _ => rfl) q5
        have CR := Aside0.mk hcr
        have CL := Aside0.mk hcl
        clear hcr hcl z0 z1
        go_enter Try.func31, Try.ntmps31
        go_wp2_with (first | ((with_reducible refine gate_dst (N := 6) rfl ?_); refine Kd.R_lit (Kd.int .i8) _ 69 ?hg (N := 6) ?hd (xs := ([] : List Int)) (inner := []) (ok := fun _ => True) (okp := fun _ => True) ?hr ?hp (fun _ hk => hk) trivial (Below.refl _ _) (Nat.le_refl _) (by simp) ?_; (case hd => rfl); (case hg => rfl); (case hr => first | (go_simp; done) | (go_simp; rfl)); (case hp => exact (Reps.none _ _)); intro v102 w6 ho7 hb hg_ hnew_; clear hg_ hnew_; (first | rw [← Ny101.out] at ho7 | (simp only [Int.reduceToNat] at ho7; rw [← Ny101.out] at ho7)); have n0_ := Aside0.mk (Kd.R_lower ho7 (below_size (by repeat (first | (with_reducible first | exact HB.out | apply below_alloc | apply pw_below_drewN | apply below_drew1) | exact HB.out)))); have n1_ := Aside0.mk (below_step (by repeat (first | (with_reducible first | exact HB.out | apply below_alloc | apply pw_below_drewN | apply below_drew1) | exact HB.out)) hb); clear HB; have HO103 := n0_; have HB := n1_; clear n0_ n1_; clear hb ho7; obtain ⟨i08, hi08, _, hsz8, _⟩ := info_parts info69; obtain ⟨hcut8, hA8, hC8⟩ := print_take_of (P := Try.prog) (Value.int .i8) 0 24 69 .i64 Try.underlying24 hi08 hsz8 A0 c0 l0 a1 (of_decide_eq_true (by first | (with_reducible assumption) | assumption)) (of_decide_eq_true (by first | (with_reducible assumption) | assumption)) HC0.out; have HR104 := Aside0.mk (Kd.C_of_reads (h1 := fun _ => rfl) (hA8 _ (Kd.reads_of_C HR0.out))); have HC104 := Aside0.mk hC8; clear hA8 hC8 hi08 hsz8; have hx : w6.cell? ⟨g, 0, none⟩ = some (.slice A0 l0.length c0) := (blk_cell (blk_below GG.out HB.out) 0).trans rfl) | ((with_reducible refine gate_builtin (b := .append) (xs := #[.tmp 6, .tmp 12]) rfl ?_); at_builtin; refine Kd.R_append_rows (Kd.int .i8) (w0 := w) w.heap.size rfl (.tmp 6) (.tmp 12) 24 69 (.int .i8 0) 1 rfl Try.underlying24 info69 rfl (by decide) (by omega) v102 y101 (l0.take (a1 : Int).toNat) _ _ _ (fun _ => True) (fun _ => False) rfl rfl ?aO ?aR (fun _ _ h => h) (fun _ h => h.elim) ?aF ?aB ?aS ?aL ?_; (case aR => have hz_ := Kd.C_below HR104.out HB.out; rw [show (l0.take (a1 : Int).toNat).length = a1.toNat from (by rw [List.length_take]; have h_ : (a1 : Int) ≤ (l0.length : Int) := of_decide_eq_true (by first | (with_reducible assumption) | assumption); omega)] at hz_; exact hz_); (case aB => exact (by repeat (first | (with_reducible first | exact HB.out | apply below_alloc | apply pw_below_drewN | apply below_drew1) | exact HB.out))); (case aF => exact (fun _ _ => trivial)); (case aO => exact (by (with_reducible repeat (first | apply Kd.R_alloc | apply Kd.R_drewN | apply Kd.R_drew)); exact HO103.out)); (case aS => exact (below_size (by repeat (first | (with_reducible first | exact HB.out | apply below_alloc | apply pw_below_drewN | apply below_drew1) | exact HB.out)))); (case aL => have := LMc5.out; have hlx_ := (show (l0.take (a1 : Int).toNat).length = a1.toNat from (by rw [List.length_take]; have h_ : (a1 : Int) ≤ (l0.length : Int) := of_decide_eq_true (by first | (with_reducible assumption) | assumption); omega)); omega); intro v106 w9 ho hb hg hat; rw [← Ny105.out] at ho; have n0_ := Aside0.mk (hb); have n1_ := Aside0.mk (ho); clear HB; clear HO103; have HB := n0_; have HO107 := n1_; clear n0_ n1_; clear ho hb hg hat; have hx2 : w9.cell? ⟨g, 0, none⟩ = some (.slice A0 l0.length c0) := (blk_cell (blk_below GG.out HB.out) 0).trans rfl; have hf2 := blk_frozen (blk_below GG.out HB.out) 0))
        go_ret
        have hne : some g ≠ v106.ownBlock := fun e_ => by
          have k1 := Kd.R_base HO107.out g e_.symm
          have k2 := blk_lt GG.out
          omega
        have hR := Kd.R_mono (Kd.R_far (p := ⟨g, 0, none⟩) (Kd.R_far1 HO107.out rfl hne) (fun k_ hk_ => hk_.2) (.slice A' (l0.drop a1.toNat).length (c0 - a1.toNat))) (ok' := fun _ => True) (fun _ _ => trivial)
        have hC := CR.out
        have hL := CL.out
        simp only [List.length_drop] at hR hC hL
        refine ⟨_, rfl, ?_, A', ?_, ?_, _, HB.out, ?_⟩
        · first | exact hR | simpa using hR
        · first | exact hC | simpa using hC
        · first | exact hL | simpa using hL
        · first | rfl | (rw [List.length_drop])
      · rw [if_neg c5] at H
        exact absurd H (by simp)
    · rw [if_neg c4] at H
      exact absurd H (by simp)
  · rw [if_neg c3] at H
    exact absurd H (by simp)

/-! ### aviaryref10_Shape: function 11 -/
theorem Next_some {L : List Int} {m : Nat} (h : m ≤ L.length) (hs : m ≤ 1000) : aviaryref09_Cut_Next.f L (m : Int) = some (L.take m) := by
  unfold aviaryref09_Cut_Next.f
  simp only [Option.bind_some]
  rw [if_pos (by omega), if_pos (by omega), if_pos (by rw [Int.toNat_natCast, List.length_take]; simp; omega)]
  simp
/-- What is known at the head of a round of the reference's Shape. -/
structure RfL (w : World) (a0 a1 : Int) (cc : Array Value) (gc : Nat) (l : List Int) (m i : Nat) (Av : Option Addr) (nv cv : Nat) (A : Option Addr) (c : Nat) (L : List Int) (W : World) : Prop where
  cfg : W.heap[w.heap.size]? = some (.cells cc 23 (0, 0))
  res : W.heap[w.heap.size + 1]? = some (.cells #[.int .i64 0, .int .i64 0, .slice none 0 0] 27 (0, 0))
  cut : W.heap[gc]? = some (.cells #[.slice A L.length c] 62 (0, 0))
  ad : W.heap[gc + 1]? = some (.cells #[.int .i64 a0, .int .i64 a1, .slice Av nv cv] 27 (0, 0))
  lay : Kd.S k59 59 W w.heap.size (fun k => gc + 1 < k) (.slice Av nv cv) (shape59 i m l)
  rd : Kd.C (Kd.int .i8) w A L.length L
  rc : L.length ≤ c
  rl : L = l.drop (i * 4 * m)
  ord : w.heap.size + 2 ≤ gc
  b : Below w.heap.size w W
/-- Within a round: H is the layer's block, qr rows lie in it, qc rows are cut off. -/
structure RfI (w : World) (a0 a1 : Int) (cc : Array Value) (gc H : Nat) (l : List Int) (m i : Nat) (Av : Option Addr) (nv cv : Nat) (qr qc : Nat) (cs : Array Value) (A : Option Addr) (c : Nat) (L : List Int) (W : World) : Prop where
  cfg : W.heap[w.heap.size]? = some (.cells cc 23 (0, 0))
  res : W.heap[w.heap.size + 1]? = some (.cells #[.int .i64 0, .int .i64 0, .slice none 0 0] 27 (0, 0))
  cut : W.heap[gc]? = some (.cells #[.slice A L.length c] 62 (0, 0))
  ad : W.heap[gc + 1]? = some (.cells #[.int .i64 a0, .int .i64 a1, .slice Av nv cv] 27 (0, 0))
  gl : W.heap[H]? = some (.cells cs 59 (0, 0))
  csz : cs.size = 4
  lay : Kd.S k59 59 W w.heap.size (fun k => gc + 1 < k ∧ k < H) (.slice Av nv cv) (shape59 i m l)
  rows : ∀ j, j < qr → ∃ u, cs[j]? = some u ∧ Kd.R (Kd.int .i8) 69 W w.heap.size (fun k => H < k) u ((l.drop ((i * 4 + j) * m)).take m)
  rd : Kd.C (Kd.int .i8) w A L.length L
  rc : L.length ≤ c
  rl : L = l.drop ((i * 4 + qc) * m)
  ord : w.heap.size + 2 ≤ gc ∧ gc + 1 < H
  b : Below w.heap.size w W
section
variable {w W W1 w1 : World} {a0 a1 : Int} {cc cs : Array Value} {gc H m i : Nat} {l L : List Int} {Av A A' : Option Addr} {nv cv c qr q : Nat}
theorem RfL.begin (h : RfL w a0 a1 cc gc l m i Av nv cv A c L W) : RfI w a0 a1 cc gc W.heap.size l m i Av nv cv 0 0 #[.slice none 0 0, .slice none 0 0, .slice none 0 0, .slice none 0 0] A c L (W.alloc (.cells #[.slice none 0 0, .slice none 0 0, .slice none 0 0, .slice none 0 0] 59)) :=
  ⟨blk_alloc h.cfg _, blk_alloc h.res _, blk_alloc h.cut _, blk_alloc h.ad _, blk_new W _, rfl, Kd.S_mono (Kd.S_below (Kd.S_bound h.lay) (below_alloc (Below.refl _ _) _)) (fun k hk => ⟨hk.1, hk.2.2.1⟩), fun j hj => absurd hj (by omega), h.rd, h.rc, by simpa using h.rl, ⟨h.ord, blk_lt h.ad⟩, below_alloc h.b _⟩
theorem RfI.next (h : RfI w a0 a1 cc gc H l m i Av nv cv q q cs A c L W) (hm : m ≤ L.length) {v : Value} {W' : World} (hr : Kd.R (Kd.int .i8) 69 W' W.heap.size (fun _ => True) v (L.take m)) (hC : ∀ W : World, Kd.C (Kd.int .i8) W A L.length L → Kd.C (Kd.int .i8) W A' (L.drop m).length (L.drop m)) (hl : (L.drop m).length ≤ c - m) (hb : Below W.heap.size W w1) (hw : W' = w1.setCell ⟨gc, 0, none⟩ (.slice A' (L.drop m).length (c - m))) :
    RfI w a0 a1 cc gc H l m i Av nv cv q (q + 1) cs A' (c - m) (L.drop m) W' ∧ Kd.R (Kd.int .i8) 69 W' w.heap.size (fun k => H < k) v ((l.drop ((i * 4 + q) * m)).take m) := by
  have hH := blk_lt h.gl
  have ho := h.ord
  have hx : ∀ k, k ≠ gc → (w1.setCell ⟨gc, 0, none⟩ (.slice A' (L.drop m).length (c - m))).heap[k]? = w1.heap[k]? := fun k hk => Below.heap_setCell w1 ⟨gc, 0, none⟩ _ k hk
  subst hw
  refine ⟨⟨blk_far (blk_below h.cfg hb) (by simp; omega) _, blk_far (blk_below h.res hb) (by simp; omega) _, blk_set (blk_below h.cut hb) 0 _, blk_far (blk_below h.ad hb) (by simp) _, blk_far (blk_below h.gl hb) (by simp; omega) _, h.csz, ?_, fun j hj => ?_, hC w h.rd, hl, ?_, ho, below_set (below_step h.b hb) (by omega)⟩, ?_⟩
  · exact Kd.S_step (Kd.S_below h.lay hb) (fun k hk _ => hx k (by omega))
  · obtain ⟨u, hu, hru⟩ := h.rows j hj
    exact ⟨u, hu, Kd.R_step (Kd.R_below hru hb) (fun k hk _ => hx k (by omega))⟩
  · rw [h.rl, List.drop_drop]
    congr 1
    exact (Nat.succ_mul (i * 4 + q) m).symm
  · rw [← h.rl]
    exact Kd.R_mono (Kd.R_lower (Kd.R_bound hr) h.b.size) (fun k hk => by have := hk.2.1; omega)
theorem RfI.store (h : RfI w a0 a1 cc gc H l m i Av nv cv q (q + 1) cs A c L W) (hq : q < 4) {v : Value} (hr : Kd.R (Kd.int .i8) 69 W w.heap.size (fun k => H < k) v ((l.drop ((i * 4 + q) * m)).take m)) :
    RfI w a0 a1 cc gc H l m i Av nv cv (q + 1) (q + 1) (cs.setIfInBounds q v) A c L (W.setCell ⟨H, q, none⟩ v) := by
  have ho := h.ord
  have hz := h.csz
  have hx : ∀ k, k ≠ H → (W.setCell ⟨H, q, none⟩ v).heap[k]? = W.heap[k]? := fun k hk => Below.heap_setCell W ⟨H, q, none⟩ _ k hk
  refine ⟨blk_far h.cfg (by simp; omega) _, blk_far h.res (by simp; omega) _, blk_far h.cut (by simp; omega) _, blk_far h.ad (by simp; omega) _, blk_set h.gl q v, by simpa using h.csz, Kd.S_step h.lay (fun k hk _ => hx k (by omega)), fun j hj => ?_, h.rd, h.rc, h.rl, ho, below_set h.b (by omega)⟩
  by_cases hj2 : j = q
  · subst hj2
    exact ⟨v, by rw [Array.getElem?_setIfInBounds_self_of_lt (by omega)], Kd.R_step hr (fun k hk _ => hx k (by omega))⟩
  · obtain ⟨u, hu, hru⟩ := h.rows j (by omega)
    exact ⟨u, by rw [Array.getElem?_setIfInBounds_ne (Ne.symm hj2)]; exact hu, Kd.R_step hru (fun k hk _ => hx k (by omega))⟩
theorem RfI.below (h : RfI w a0 a1 cc gc H l m i Av nv cv qr q cs A c L W) (hb : Below W.heap.size W W1) : RfI w a0 a1 cc gc H l m i Av nv cv qr q cs A c L W1 :=
  ⟨blk_below h.cfg hb, blk_below h.res hb, blk_below h.cut hb, blk_below h.ad hb, blk_below h.gl hb, h.csz, Kd.S_below h.lay hb, fun j hj => by obtain ⟨u, hu, hr⟩ := h.rows j hj; exact ⟨u, hu, Kd.R_below hr hb⟩, h.rd, h.rc, h.rl, h.ord, below_step h.b hb⟩
theorem RfI.elem {v0 v1 v2 v3 : Value} (h : RfI w a0 a1 cc gc H l m i Av nv cv 4 q #[v0, v1, v2, v3] A c L W) : k59.M W w.heap.size (fun k => H < k) (cut59 m l i) [v0, v1, v2, v3] := by
  obtain ⟨u0, e0, r0⟩ := h.rows 0 (by omega)
  obtain ⟨u1, e1, r1⟩ := h.rows 1 (by omega)
  obtain ⟨u2, e2, r2⟩ := h.rows 2 (by omega)
  obtain ⟨u3, e3, r3⟩ := h.rows 3 (by omega)
  obtain rfl : v0 = u0 := by simpa using e0
  obtain rfl : v1 = u1 := by simpa using e1
  obtain rfl : v2 = u2 := by simpa using e2
  obtain rfl : v3 = u3 := by simpa using e3
  exact k59_mkM W _ _ _ r0 r1 r2 r3
theorem RfI.finish (h : RfI w a0 a1 cc gc H l m i Av nv cv 4 4 cs A c L W) {Av2 : Option Addr} {nv2 cv2 : Nat} (hs : Kd.S k59 59 W1 w.heap.size (fun k => gc + 1 < k) (.slice Av2 nv2 cv2) (shape59 (i + 1) m l)) (hb : Below w.heap.size w W1) (hg : ∀ k, k < W.heap.size → k ≤ gc + 1 → W1.heap[k]? = W.heap[k]?) :
    RfL w a0 a1 cc gc l m (i + 1) Av2 nv2 cv2 A c L (W1.setCell ⟨gc + 1, 2, none⟩ (.slice Av2 nv2 cv2)) := by
  have ho := h.ord
  have hx : ∀ k, k ≠ gc + 1 → (W1.setCell ⟨gc + 1, 2, none⟩ (.slice Av2 nv2 cv2)).heap[k]? = W1.heap[k]? := fun k hk => Below.heap_setCell W1 ⟨gc + 1, 2, none⟩ _ k hk
  have h4 : W1.heap[gc + 1]? = some (.cells #[.int .i64 a0, .int .i64 a1, .slice Av nv cv] 27 (0, 0)) := (hg _ (blk_lt h.ad) (Nat.le_refl _)).trans h.ad
  refine ⟨?_, ?_, ?_, blk_set h4 2 _, Kd.S_step hs (fun k hk _ => hx k (by omega)), h.rd, h.rc, ?_, ho.1, below_set hb (by omega)⟩
  · exact (hx _ (by omega)).trans ((hg _ (blk_lt h.cfg) (by omega)).trans h.cfg)
  · exact (hx _ (by omega)).trans ((hg _ (blk_lt h.res) (by omega)).trans h.res)
  · exact (hx _ (by omega)).trans ((hg _ (blk_lt h.cut) (by omega)).trans h.cut)
  · rw [h.rl, show (i + 1) * 4 = i * 4 + 4 from by omega]
theorem RfL.result (h : RfL w a0 a1 cc gc l m i Av nv cv A c L W) (x y z : Value) : Kd.S k59 59 (((W.setCell ⟨w.heap.size + 1, 0, none⟩ x).setCell ⟨w.heap.size + 1, 1, none⟩ y).setCell ⟨w.heap.size + 1, 2, none⟩ z) w.heap.size (fun _ => True) (.slice Av nv cv) (shape59 i m l) := by
  have ho := h.ord
  have hok : ∀ k, gc + 1 < k → k ≠ w.heap.size + 1 := fun k hk => by omega
  exact Kd.S_mono (Kd.S_far (p := ⟨w.heap.size + 1, 2, none⟩) (Kd.S_far (p := ⟨w.heap.size + 1, 1, none⟩) (Kd.S_far (p := ⟨w.heap.size + 1, 0, none⟩) h.lay hok x) hok y) hok z) (fun _ _ => trivial)
end
theorem slice_take {L : List Int} {m : Nat} {W : World} {base : Nat} {ok : Nat → Prop} {v : Value} (h : Kd.R (Kd.int .i8) 69 W base ok v (L.take m)) (hm : m ≤ L.length) : ∃ B d, v = .slice B m d := by
  obtain ⟨B, d, e⟩ := Kd.R_slice h
  exact ⟨B, d, by rw [e, List.length_take, Nat.min_eq_left hm]⟩
theorem rest_len {L l : List Int} {n m i q : Nat} (hL : L = l.drop ((i * 4 + q) * m)) (hl : l.length = n * 4 * m) (hi : i < n) (hq : q < 4) : m ≤ L.length := by
  rw [hL, List.length_drop, hl, ← Nat.sub_mul]
  exact Nat.le_mul_of_pos_left _ (by omega)
theorem shape59_succ (i m : Nat) (l : List Int) : shape59 (i + 1) m l = shape59 i m l ++ [cut59 m l i] := by
  simp [shape59, List.range_succ]
def aviaryref10_Shape.f (k : Nat) (a0 : Int) (a1 : Int) (a2_0 : Int) (a2_1 : Int) (a2_2 : Int) (a2_3 : Int) (a2_4 : Int) (a2_5 : Int) (a2_6 : Int) (a2_7 : Int) (l3 : List Int) : Option (Int × Int × (List (S59)) × Int) := (aviaryref10_ranges.f k a0 a1 a2_0 a2_1 a2_2 a2_3 a2_4 a2_5 a2_6 a2_7).bind fun t => (if t = true then (if (l3.length : Int) = wrap64 (wrap64 (a2_2 * 4) * wrap64 (a0 * a2_0)) then (if (1 ≤ a2_2 ∧ a2_2 ≤ 1000) ∧ (1 ≤ a0 * a2_0 ∧ a0 * a2_0 ≤ 1000) then (some (a0, a1, shape59 a2_2.toNat (a0 * a2_0).toNat l3, 0)) else (none)) else (some (0, 0, [], 21))) else (some (0, 0, [], 20)))
theorem aviaryref10_Shape.mono : ∀ a0 a1 a2 a3 a4 a5 a6 a7 a8 a9 a10 k, LeO (aviaryref10_Shape.f k a0 a1 a2 a3 a4 a5 a6 a7 a8 a9 a10) (aviaryref10_Shape.f (k + 1) a0 a1 a2 a3 a4 a5 a6 a7 a8 a9 a10) := by
  intro a0 a1 a2 a3 a4 a5 a6 a7 a8 a9 a10 k
  unfold aviaryref10_Shape.f
  repeat' first
      | (with_reducible exact LeO.refl _)
      | (with_reducible exact LeO.none _)
      | (with_reducible refine LeO.ite ?_ ?_)
      | (with_reducible exact aviaryref10_ranges.mono _ _ _ _ _ _ _ _ _ _ _)
      | (with_reducible refine LeO.bind ?_ (fun _ => ?_))
set_option maxHeartbeats 8000000 in
set_option maxRecDepth 100000 in
theorem aviaryref10_Shape.calls (k : Nat) (a0 : Int) (a1 : Int) (a2_0 : Int) (a2_1 : Int) (a2_2 : Int) (a2_3 : Int) (a2_4 : Int) (a2_5 : Int) (a2_6 : Int) (a2_7 : Int) (A3 : Option Addr) (c3 : Nat) (l3 : List Int) (r1 : Int) (r2 : Int) (r3 : List (S59)) (r4 : Int) (w : World) (hr3 : Kd.C (Kd.int .i8) w A3 l3.length l3) (hc3 : l3.length ≤ c3) (h : aviaryref10_Shape.f k a0 a1 a2_0 a2_1 a2_2 a2_3 a2_4 a2_5 a2_6 a2_7 l3 = some (r1, r2, r3, r4)) :
    Calls Try.prog 11 #[.int .i64 a0, .int .i64 a1, .agg #[.int .i64 a2_0, .int .i64 a2_1, .int .i64 a2_2, .int .i64 a2_3, .int .i64 a2_4, .int .i64 a2_5, .int .i64 a2_6, .int .i64 a2_7], .slice A3 l3.length c3] w fun e w' => ∃ v2_ : Value, e = .returned (.tuple #[.agg #[.int .i64 r1, .int .i64 r2, v2_], .int .i64 r4]) ∧ Kd.S k59 59 w' w.heap.size (fun _ => True) v2_ r3 ∧ Below w.heap.size w w' := by
  have hu23 := Try.underlying23
  have hu27 := Try.underlying27
  have hu25 := Try.underlying25
  have hu24 := Try.underlying24
  have hu59 := Try.underlying59
  have hu55 := Try.underlying55
  have HR := Aside0.mk hr3
  have HC := Aside0.mk hc3
  clear hr3 hc3
  have HI0 := Aside0.mk (ShTwo.start w 23 27 #[.int .i64 a2_0, .int .i64 a2_1, .int .i64 a2_2, .int .i64 a2_3, .int .i64 a2_4, .int .i64 a2_5, .int .i64 a2_6, .int .i64 a2_7] #[.int .i64 0, .int .i64 0, .slice none 0 0])
  obtain ⟨t, ht, H⟩ := Option.bind_eq_some_iff.mp h
  clear h
  have HT := Aside0.mk ht
  clear ht
  cases t with
  | false =>
    rw [if_neg (by simp)] at H
    simp only [Option.some.injEq, Prod.mk.injEq] at H
    obtain ⟨rfl, rfl, rfl, rfl⟩ := H
    go_enter Try.func11, Try.ntmps11
    go_wp2_with (first | ((with_reducible refine gate_callee (f := 30) rfl ?_); refine goesL_ (some 18) rfl rfl Try.func30 (by kernel_rfl) rfl #[.int .i64 a0, .int .i64 a1, .agg #[.int .i64 a2_0, .int .i64 a2_1, .int .i64 a2_2, .int .i64 a2_3, .int .i64 a2_4, .int .i64 a2_5, .int .i64 a2_6, .int .i64 a2_7]] rfl (by (try simp only [List.map_toArray, List.map_cons, List.map_nil]); first | done | rfl) ?_; (with_reducible refine (aviaryref10_ranges.calls k a0 a1 a2_0 a2_1 a2_2 a2_3 a2_4 a2_5 a2_6 a2_7 false _ HT.out).mono ?_); rintro e w1 ⟨rfl, hb⟩; refine ⟨_, rfl, ?_⟩; have HI := Aside0.mk (HI0.out.below hb); clear hb HI0; have hz0 : w1.cell? ⟨w.heap.size + 1, 0, none⟩ = some (.int .i64 0) := (blk_cell HI.out.b2 0).trans rfl; have hz1 : w1.cell? ⟨w.heap.size + 1, 1, none⟩ = some (.int .i64 0) := (blk_cell HI.out.b2 1).trans rfl; have hz2 : w1.cell? ⟨w.heap.size + 1, 2, none⟩ = some (.slice none 0 0) := (blk_cell HI.out.b2 2).trans rfl; have hc0 : w1.cell? ⟨w.heap.size, 0, none⟩ = some (.int .i64 a2_0) := (blk_cell HI.out.b1 0).trans rfl; have hc2 : w1.cell? ⟨w.heap.size, 2, none⟩ = some (.int .i64 a2_2) := (blk_cell HI.out.b1 2).trans rfl; have fz0 := blk_frozen HI.out.b2 0; have fz1 := blk_frozen HI.out.b2 1; have fz2 := blk_frozen HI.out.b2 2))
    exact bodyPost_ret (v := .tuple #[.agg #[.int .i64 0, .int .i64 0, .slice none 0 0], .int .i64 20]) (by simp [results, Try.results11, go_sem, hz0, hz1, hz2, fz0, fz1, fz2]) rfl ⟨_, rfl, ⟨fun _ => 0, Kd.R_nil _ _ _ _ _⟩, below_set (below_set (below_set HI.out.bl (Nat.le_succ _)) (Nat.le_succ _)) (Nat.le_succ _)⟩
  | true =>
    rw [if_pos rfl] at H
    by_cases cl : (l3.length : Int) = wrap64 (wrap64 (a2_2 * 4) * wrap64 (a0 * a2_0))
    · rw [if_pos cl] at H
      by_cases cn : (1 ≤ a2_2 ∧ a2_2 ≤ 1000) ∧ (1 ≤ a0 * a2_0 ∧ a0 * a2_0 ≤ 1000)
      · rw [if_pos cn] at H
        simp only [Option.some.injEq, Prod.mk.injEq] at H
        obtain ⟨rfl, rfl, rfl, rfl⟩ := H
        obtain ⟨⟨n1, n2⟩, m1, m2⟩ := cn
        obtain ⟨n, rfl⟩ := Int.eq_ofNat_of_zero_le (show 0 ≤ a2_2 by omega)
        obtain ⟨m, hm⟩ := Int.eq_ofNat_of_zero_le (show 0 ≤ a0 * a2_0 by omega)
        have hm1 : 1 ≤ m := by omega
        have hm2 : m ≤ 1000 := by omega
        have hn1 : 1 ≤ n := by omega
        have hn2 : n ≤ 1000 := by omega
        have hw1 : wrap64 (a0 * a2_0) = (m : Int) := by rw [hm]; unfold wrap64; omega
        have hw0 : wrap64 ((n : Int) * 4) = (n : Int) * 4 := by unfold wrap64; omega
        have hnm : n * 4 * m ≤ 4000000 := Nat.le_trans (Nat.mul_le_mul (show n * 4 ≤ 4000 by omega) hm2) (by decide)
        have hw2 : wrap64 ((n : Int) * 4 * (m : Int)) = ((n * 4 * m : Nat) : Int) := by rw [show (n : Int) * 4 * (m : Int) = ((n * 4 * m : Nat) : Int) by simp]; unfold wrap64; omega
        have hll : l3.length = n * 4 * m := by rw [hw1, hw0, hw2] at cl; omega
        clear cl n1 n2 m1 m2 hw0
        rw [hm, Int.toNat_natCast, Int.toNat_natCast]
        have hkw1 : IntKind.i64.wrap (a0 * a2_0) = (m : Int) := by rw [i64_w]; exact hw1
        have hkw2 : IntKind.i64.wrap ((n : Int) * 4 * (m : Int)) = (l3.length : Int) := by rw [hll, i64_w]; exact hw2
        have hkw3 : wrap64 ((n : Int) * 4 * (m : Int)) = (l3.length : Int) := by rw [hll]; exact hw2
        have HM := Aside0.mk hm
        have HLL := Aside0.mk hll
        have HNM := Aside0.mk hnm
        have HM12 := Aside0.mk (And.intro hm1 hm2)
        clear hm hll hnm hw2 hm1 hm2
        have hn1' : (1 : Int) ≤ (n : Int) := by omega
        have hn2' : (n : Int) ≤ 1000 := by omega
        clear hn1 hn2
        go_enter Try.func11, Try.ntmps11
        go_wp2_with (first | ((with_reducible refine gate_callee (f := 30) rfl ?_); refine goesL_ (some 18) rfl rfl Try.func30 (by kernel_rfl) rfl #[.int .i64 a0, .int .i64 a1, .agg #[.int .i64 a2_0, .int .i64 a2_1, .int .i64 (n : Int), .int .i64 a2_3, .int .i64 a2_4, .int .i64 a2_5, .int .i64 a2_6, .int .i64 a2_7]] rfl (by (try simp only [List.map_toArray, List.map_cons, List.map_nil]); first | done | rfl) ?_; (with_reducible refine (aviaryref10_ranges.calls k a0 a1 a2_0 a2_1 (n : Int) a2_3 a2_4 a2_5 a2_6 a2_7 true _ HT.out).mono ?_); rintro e w1 ⟨rfl, hb⟩; refine ⟨_, rfl, ?_⟩; have HI := Aside0.mk ((ShTwo.start w 23 27 #[.int .i64 a2_0, .int .i64 a2_1, .int .i64 (n : Int), .int .i64 a2_3, .int .i64 a2_4, .int .i64 a2_5, .int .i64 a2_6, .int .i64 a2_7] #[.int .i64 0, .int .i64 0, .slice none 0 0]).below hb); clear hb; have hz0 : w1.cell? ⟨w.heap.size + 1, 0, none⟩ = some (.int .i64 0) := (blk_cell HI.out.b2 0).trans rfl; have hz1 : w1.cell? ⟨w.heap.size + 1, 1, none⟩ = some (.int .i64 0) := (blk_cell HI.out.b2 1).trans rfl; have hz2 : w1.cell? ⟨w.heap.size + 1, 2, none⟩ = some (.slice none 0 0) := (blk_cell HI.out.b2 2).trans rfl; have hc0 : w1.cell? ⟨w.heap.size, 0, none⟩ = some (.int .i64 a2_0) := (blk_cell HI.out.b1 0).trans rfl; have hc2 : w1.cell? ⟨w.heap.size, 2, none⟩ = some (.int .i64 (n : Int)) := (blk_cell HI.out.b1 2).trans rfl; have fz0 := blk_frozen HI.out.b2 0; have fz1 := blk_frozen HI.out.b2 1; have fz2 := blk_frozen HI.out.b2 2))
        obtain ⟨gc, hgc⟩ : ∃ gc, gc = w1.heap.size := ⟨_, rfl⟩
        have HL3 : Aside0 (RfL w a0 a1 #[.int .i64 a2_0, .int .i64 a2_1, .int .i64 (n : Int), .int .i64 a2_3, .int .i64 a2_4, .int .i64 a2_5, .int .i64 a2_6, .int .i64 a2_7] gc l3 m 0 none 0 0 A3 c3 l3 ((w1.alloc (.cells #[.slice A3 l3.length c3] 62)).alloc (.cells #[.int .i64 a0, .int .i64 a1, .slice none 0 0] 27))) := by
          subst hgc
          have h1 := blk_lt HI.out.b2
          have h2 := blk_new (w1.alloc (.cells #[.slice A3 l3.length c3] 62)) (.cells #[.int .i64 a0, .int .i64 a1, .slice none 0 0] 27)
          simp only [World.size_alloc] at h2
          exact ⟨⟨blk_alloc (blk_alloc HI.out.b1 _) _, blk_alloc (blk_alloc HI.out.b2 _) _, blk_alloc (blk_new w1 _) _, h2, Kd.S_nil _ _ _ _ _, HR.out, HC.out, by simp, h1, below_alloc (below_alloc HI.out.bl _) _⟩⟩
        clear HI HI0
        rw [← hgc]
        generalize (w1.alloc (.cells #[.slice A3 l3.length c3] 62)).alloc (.cells #[.int .i64 a0, .int .i64 a1, .slice none 0 0] 27) = w6 at HL3 ⊢
        clear hz0 hz1 hz2 hc0 hc2 fz0 fz1 fz2
        clear hgc
        go_loopg [13] n (fun kq v13 wr => ∃ (i : Nat) (Av : Option Addr) (nv cv : Nat) (A : Option Addr) (c : Nat) (L : List Int), v13 = .int .i64 (i : Int) ∧ i + kq = n ∧ Aside0 (RfL w a0 a1 #[.int .i64 a2_0, .int .i64 a2_1, .int .i64 (n : Int), .int .i64 a2_3, .int .i64 a2_4, .int .i64 a2_5, .int .i64 a2_6, .int .i64 a2_7] gc l3 m i Av nv cv A c L wr))
        case atStart => exact ⟨0, none, 0, 0, A3, c3, l3, rfl, by omega, HL3⟩
        case round =>
          clear HL3
          obtain ⟨i, Av, nv, cv, A, c, L0, rfl, hik, HL⟩ := hrel
          have hcn : wr.cell? ⟨w.heap.size, 2, none⟩ = some (.int .i64 (n : Int)) := (blk_cell HL.out.cfg 2).trans rfl
          by_cases ci : i < n
          · have cb : decide ((i : Int) < (n : Int)) = true := decide_eq_true (by omega)
            have HI := Aside0.mk HL.out.begin
            have HM := Aside0.mk (rest_len (q := 0) HL.out.rl HLL.out ci (by omega))
            have HH := Aside0.mk (rfl : wr.heap.size = wr.heap.size)
            clear HL
            go_wp2_with (first | ((with_reducible refine gate_callee (f := 31) rfl ?_); refine goesL_ (some 49) rfl rfl Try.func31 (by kernel_rfl) rfl #[.pointer (some ⟨gc, 0, none⟩), .int .i64 (m : Int)] rfl (by (try simp only [List.map_toArray, List.map_cons, List.map_nil]); first | done | rfl) ?_; have hI := HI.out; have hml := HM.out; (with_reducible refine (aviaryref09_Cut_Next.calls _ _ _ (m : Int) _ _ gc hI.cut (Kd.C_below hI.rd hI.b) hI.rc (Next_some hml HM12.out.2)).mono ?_); rintro e wn ⟨v_, E1, wm, rfl, hr_, hC_, hl_, hb_, hw_⟩; rw [Int.toNat_natCast] at hC_ hl_ hw_; refine ⟨_, rfl, ?_⟩; have hn := hI.next hml hr_ hC_ hl_ hb_ hw_; have hsl := slice_take hr_ hml; clear hr_ hC_ hl_ hb_ hw_ hI hml; obtain ⟨hn1, hn2⟩ := hn; obtain ⟨B0, d0, hv_⟩ := hsl; subst hv_; clear HI; have HI := Aside0.mk hn1; have HS := Aside0.mk hn2; clear hn1 hn2; have hg := (blk_cell HI.out.gl 0).trans rfl; have hgf := blk_frozen HI.out.gl 0) | ((with_reducible refine gate_callee (f := 31) rfl ?_); refine goesL_ (some 53) rfl rfl Try.func31 (by kernel_rfl) rfl #[.pointer (some ⟨gc, 0, none⟩), .int .i64 (m : Int)] rfl (by (try simp only [List.map_toArray, List.map_cons, List.map_nil]); first | done | rfl) ?_; have hI := HI.out; have hml := HM.out; (with_reducible refine (aviaryref09_Cut_Next.calls _ _ _ (m : Int) _ _ gc hI.cut (Kd.C_below hI.rd hI.b) hI.rc (Next_some hml HM12.out.2)).mono ?_); rintro e wn ⟨v_, E2, wm, rfl, hr_, hC_, hl_, hb_, hw_⟩; rw [Int.toNat_natCast] at hC_ hl_ hw_; refine ⟨_, rfl, ?_⟩; have hn := hI.next hml hr_ hC_ hl_ hb_ hw_; have hsl := slice_take hr_ hml; clear hr_ hC_ hl_ hb_ hw_ hI hml; obtain ⟨hn1, hn2⟩ := hn; obtain ⟨B1, d1, hv_⟩ := hsl; subst hv_; clear HI; have HI := Aside0.mk hn1; have HS := Aside0.mk hn2; clear hn1 hn2; have hg := (blk_cell HI.out.gl 1).trans rfl; have hgf := blk_frozen HI.out.gl 1) | ((with_reducible refine gate_callee (f := 31) rfl ?_); refine goesL_ (some 57) rfl rfl Try.func31 (by kernel_rfl) rfl #[.pointer (some ⟨gc, 0, none⟩), .int .i64 (m : Int)] rfl (by (try simp only [List.map_toArray, List.map_cons, List.map_nil]); first | done | rfl) ?_; have hI := HI.out; have hml := HM.out; (with_reducible refine (aviaryref09_Cut_Next.calls _ _ _ (m : Int) _ _ gc hI.cut (Kd.C_below hI.rd hI.b) hI.rc (Next_some hml HM12.out.2)).mono ?_); rintro e wn ⟨v_, E3, wm, rfl, hr_, hC_, hl_, hb_, hw_⟩; rw [Int.toNat_natCast] at hC_ hl_ hw_; refine ⟨_, rfl, ?_⟩; have hn := hI.next hml hr_ hC_ hl_ hb_ hw_; have hsl := slice_take hr_ hml; clear hr_ hC_ hl_ hb_ hw_ hI hml; obtain ⟨hn1, hn2⟩ := hn; obtain ⟨B2, d2, hv_⟩ := hsl; subst hv_; clear HI; have HI := Aside0.mk hn1; have HS := Aside0.mk hn2; clear hn1 hn2; have hg := (blk_cell HI.out.gl 2).trans rfl; have hgf := blk_frozen HI.out.gl 2) | ((with_reducible refine gate_callee (f := 31) rfl ?_); refine goesL_ (some 61) rfl rfl Try.func31 (by kernel_rfl) rfl #[.pointer (some ⟨gc, 0, none⟩), .int .i64 (m : Int)] rfl (by (try simp only [List.map_toArray, List.map_cons, List.map_nil]); first | done | rfl) ?_; have hI := HI.out; have hml := HM.out; (with_reducible refine (aviaryref09_Cut_Next.calls _ _ _ (m : Int) _ _ gc hI.cut (Kd.C_below hI.rd hI.b) hI.rc (Next_some hml HM12.out.2)).mono ?_); rintro e wn ⟨v_, E4, wm, rfl, hr_, hC_, hl_, hb_, hw_⟩; rw [Int.toNat_natCast] at hC_ hl_ hw_; refine ⟨_, rfl, ?_⟩; have hn := hI.next hml hr_ hC_ hl_ hb_ hw_; have hsl := slice_take hr_ hml; clear hr_ hC_ hl_ hb_ hw_ hI hml; obtain ⟨hn1, hn2⟩ := hn; obtain ⟨B3, d3, hv_⟩ := hsl; subst hv_; clear HI; have HI := Aside0.mk hn1; have HS := Aside0.mk hn2; clear hn1 hn2; have hg := (blk_cell HI.out.gl 3).trans rfl; have hgf := blk_frozen HI.out.gl 3) | ((with_reducible refine gate_store (t := 24) (p := 50) rfl ?_); refine store_event (t := 24) (p := 50) (v := .tmp 49) (w1 := wn.setCell ⟨wr.heap.size, 0, none⟩ (.slice B0 m d0)) ?hg ?ho ?hn ?hr ?_; (case ho => rfl); (case hg => rfl); (case hn => rfl); (case hr => first | (go_simp; done) | (go_simp; rfl)); intro ws hw; have hI : RfI w a0 a1 #[.int .i64 a2_0, .int .i64 a2_1, .int .i64 (n : Int), .int .i64 a2_3, .int .i64 a2_4, .int .i64 a2_5, .int .i64 a2_6, .int .i64 a2_7] gc wr.heap.size l3 m i Av nv cv 1 1 #[.slice B0 m d0, .slice none 0 0, .slice none 0 0, .slice none 0 0] E1 (c - m) (L0.drop m) ws := (by rw [hw]; exact HI.out.store (by omega) HS.out); clear hw hg hgf HI HS; have HI := Aside0.mk hI; clear hI; clear HM; have HM := Aside0.mk (rest_len HI.out.rl HLL.out ci (by omega) : m ≤ _)) | ((with_reducible refine gate_store (t := 24) (p := 54) rfl ?_); refine store_event (t := 24) (p := 54) (v := .tmp 53) (w1 := wn.setCell ⟨wr.heap.size, 1, none⟩ (.slice B1 m d1)) ?hg ?ho ?hn ?hr ?_; (case ho => rfl); (case hg => rfl); (case hn => rfl); (case hr => first | (go_simp; done) | (go_simp; rfl)); intro ws hw; have hI : RfI w a0 a1 #[.int .i64 a2_0, .int .i64 a2_1, .int .i64 (n : Int), .int .i64 a2_3, .int .i64 a2_4, .int .i64 a2_5, .int .i64 a2_6, .int .i64 a2_7] gc wr.heap.size l3 m i Av nv cv 2 2 #[.slice B0 m d0, .slice B1 m d1, .slice none 0 0, .slice none 0 0] E2 ((c - m) - m) ((L0.drop m).drop m) ws := (by rw [hw]; exact HI.out.store (by omega) HS.out); clear hw hg hgf HI HS; have HI := Aside0.mk hI; clear hI; clear HM; have HM := Aside0.mk (rest_len HI.out.rl HLL.out ci (by omega) : m ≤ _)) | ((with_reducible refine gate_store (t := 24) (p := 58) rfl ?_); refine store_event (t := 24) (p := 58) (v := .tmp 57) (w1 := wn.setCell ⟨wr.heap.size, 2, none⟩ (.slice B2 m d2)) ?hg ?ho ?hn ?hr ?_; (case ho => rfl); (case hg => rfl); (case hn => rfl); (case hr => first | (go_simp; done) | (go_simp; rfl)); intro ws hw; have hI : RfI w a0 a1 #[.int .i64 a2_0, .int .i64 a2_1, .int .i64 (n : Int), .int .i64 a2_3, .int .i64 a2_4, .int .i64 a2_5, .int .i64 a2_6, .int .i64 a2_7] gc wr.heap.size l3 m i Av nv cv 3 3 #[.slice B0 m d0, .slice B1 m d1, .slice B2 m d2, .slice none 0 0] E3 (((c - m) - m) - m) (((L0.drop m).drop m).drop m) ws := (by rw [hw]; exact HI.out.store (by omega) HS.out); clear hw hg hgf HI HS; have HI := Aside0.mk hI; clear hI; clear HM; have HM := Aside0.mk (rest_len HI.out.rl HLL.out ci (by omega) : m ≤ _)) | ((with_reducible refine gate_store (t := 24) (p := 62) rfl ?_); refine store_event (t := 24) (p := 62) (v := .tmp 61) (w1 := wn.setCell ⟨wr.heap.size, 3, none⟩ (.slice B3 m d3)) ?hg ?ho ?hn ?hr ?_; (case ho => rfl); (case hg => rfl); (case hn => rfl); (case hr => first | (go_simp; done) | (go_simp; rfl)); intro ws hw; have hI : RfI w a0 a1 #[.int .i64 a2_0, .int .i64 a2_1, .int .i64 (n : Int), .int .i64 a2_3, .int .i64 a2_4, .int .i64 a2_5, .int .i64 a2_6, .int .i64 a2_7] gc wr.heap.size l3 m i Av nv cv 4 4 #[.slice B0 m d0, .slice B1 m d1, .slice B2 m d2, .slice B3 m d3] E4 ((((c - m) - m) - m) - m) ((((L0.drop m).drop m).drop m).drop m) ws := (by rw [hw]; exact HI.out.store (by omega) HS.out); clear hw hg hgf HI HS; have HI := Aside0.mk hI; clear hI; have hcx := (blk_cell HI.out.ad 2).trans rfl; have hcl0 := (blk_cell HI.out.gl 0).trans rfl; have hcl1 := (blk_cell HI.out.gl 1).trans rfl; have hcl2 := (blk_cell HI.out.gl 2).trans rfl; have hcl3 := (blk_cell HI.out.gl 3).trans rfl) | ((with_reducible refine gate_builtin (b := .append) (xs := #[.tmp 64, .tmp 66]) rfl ?_); at_builtin; refine Kd.S_append k59 (w0 := w) w.heap.size rfl (.tmp 64) (.tmp 66) 25 59 (.agg #[(.slice none 0 0), (.slice none 0 0), (.slice none 0 0), (.slice none 0 0)]) 96 rfl Try.underlying25 info59 rfl (by decide) (by omega) (.slice Av nv cv) (shape59 i m l3) (cut59 m l3 i) _ (fun k => gc + 1 < k) (fun k => wr.heap.size < k) rfl rfl HI.out.elem (fun k hk => ⟨Nat.lt_trans HI.out.ord.2 hk, fun e_ => absurd ((Kd.S_R HI.out.lay).1 k e_.symm).2 (by omega)⟩) (fun k hk => by have h1 := HI.out.ord; have h2 := blk_lt HI.out.gl; omega) (Kd.S_mono HI.out.lay (fun k hk => ⟨hk.1, by omega⟩)) HI.out.b HI.out.b.size (by simp [shape59]; omega) ?_; intro v1 wz hs hb hg hat; have hown := fun k => ((Kd.S_R HI.out.lay).1 k); rw [← shape59_succ] at hs; obtain ⟨Av2, cv2, hv1⟩ := Kd.S_slice hs; subst hv1; have hfin := HI.out.finish hs hb (fun k hk hle => hg.block k hk (fun e_ => absurd (hown k e_.symm).1 (by omega))); have hc2 : wz.cell? ⟨gc + 1, 2, none⟩ = some (.slice Av nv cv) := ((blk_cell ((hg.block (gc + 1) (blk_lt HI.out.ad) (fun e_ => absurd (hown _ e_.symm).1 (by omega))).trans HI.out.ad) 2)).trans rfl; have hf2 := blk_frozen ((hg.block (gc + 1) (blk_lt HI.out.ad) (fun e_ => absurd (hown _ e_.symm).1 (by omega))).trans HI.out.ad) 2; have HF := Aside0.mk hfin; clear hfin hs hb hg hat hown hcx hcl0 hcl1 hcl2 hcl3))
            go_roundg (n - i - 1)
            case measure => omega
            case rel => exact ⟨i + 1, Av2, _, cv2, E4, _, _, by simp, by omega, HF⟩
          · have cb : decide ((i : Int) < (n : Int)) = false := decide_eq_false (by omega)
            obtain rfl : i = n := by omega
            have hz0 : wr.cell? ⟨w.heap.size + 1, 0, none⟩ = some (.int .i64 0) := (blk_cell HL.out.res 0).trans rfl
            have hz1 : wr.cell? ⟨w.heap.size + 1, 1, none⟩ = some (.int .i64 0) := (blk_cell HL.out.res 1).trans rfl
            have hz2 : wr.cell? ⟨w.heap.size + 1, 2, none⟩ = some (.slice none 0 0) := (blk_cell HL.out.res 2).trans rfl
            have hy0 : wr.cell? ⟨gc + 1, 0, none⟩ = some (.int .i64 a0) := (blk_cell HL.out.ad 0).trans rfl
            have hy1 : wr.cell? ⟨gc + 1, 1, none⟩ = some (.int .i64 a1) := (blk_cell HL.out.ad 1).trans rfl
            have hy2 : wr.cell? ⟨gc + 1, 2, none⟩ = some (.slice Av nv cv) := (blk_cell HL.out.ad 2).trans rfl
            have fz0 := blk_frozen HL.out.res 0
            have fz1 := blk_frozen HL.out.res 1
            have fz2 := blk_frozen HL.out.res 2
            go_wp2
            exact bodyPost_ret (v := .tuple #[.agg #[.int .i64 a0, .int .i64 a1, .slice Av nv cv], .int .i64 0]) (by simp [results, Try.results11, go_sem, hz0, hz1, hz2, fz0, fz1, fz2]) rfl ⟨_, rfl, HL.out.result _ _ _, below_set (below_set (below_set HL.out.b (Nat.le_succ _)) (Nat.le_succ _)) (Nat.le_succ _)⟩
      · rw [if_neg cn] at H
        exact absurd H (by simp)
    · rw [if_neg cl] at H
      simp only [Option.some.injEq, Prod.mk.injEq] at H
      obtain ⟨rfl, rfl, rfl, rfl⟩ := H
      have cl1 : ((l3.length : Int) != wrap64 (wrap64 (a2_2 * 4) * wrap64 (a0 * a2_0))) = true := bne_iff_ne.mpr cl
      go_enter Try.func11, Try.ntmps11
      go_wp2_with (first | ((with_reducible refine gate_callee (f := 30) rfl ?_); refine goesL_ (some 18) rfl rfl Try.func30 (by kernel_rfl) rfl #[.int .i64 a0, .int .i64 a1, .agg #[.int .i64 a2_0, .int .i64 a2_1, .int .i64 a2_2, .int .i64 a2_3, .int .i64 a2_4, .int .i64 a2_5, .int .i64 a2_6, .int .i64 a2_7]] rfl (by (try simp only [List.map_toArray, List.map_cons, List.map_nil]); first | done | rfl) ?_; (with_reducible refine (aviaryref10_ranges.calls k a0 a1 a2_0 a2_1 a2_2 a2_3 a2_4 a2_5 a2_6 a2_7 true _ HT.out).mono ?_); rintro e w1 ⟨rfl, hb⟩; refine ⟨_, rfl, ?_⟩; have HI := Aside0.mk (HI0.out.below hb); clear hb HI0; have hz0 : w1.cell? ⟨w.heap.size + 1, 0, none⟩ = some (.int .i64 0) := (blk_cell HI.out.b2 0).trans rfl; have hz1 : w1.cell? ⟨w.heap.size + 1, 1, none⟩ = some (.int .i64 0) := (blk_cell HI.out.b2 1).trans rfl; have hz2 : w1.cell? ⟨w.heap.size + 1, 2, none⟩ = some (.slice none 0 0) := (blk_cell HI.out.b2 2).trans rfl; have hc0 : w1.cell? ⟨w.heap.size, 0, none⟩ = some (.int .i64 a2_0) := (blk_cell HI.out.b1 0).trans rfl; have hc2 : w1.cell? ⟨w.heap.size, 2, none⟩ = some (.int .i64 a2_2) := (blk_cell HI.out.b1 2).trans rfl; have fz0 := blk_frozen HI.out.b2 0; have fz1 := blk_frozen HI.out.b2 1; have fz2 := blk_frozen HI.out.b2 2))
      exact bodyPost_ret (v := .tuple #[.agg #[.int .i64 0, .int .i64 0, .slice none 0 0], .int .i64 21]) (by simp [results, Try.results11, go_sem, hz0, hz1, hz2, fz0, fz1, fz2]) rfl ⟨_, rfl, ⟨fun _ => 0, Kd.R_nil _ _ _ _ _⟩, below_set (below_set (below_set HI.out.bl (Nat.le_succ _)) (Nat.le_succ _)) (Nat.le_succ _)⟩

/-! ### aviaryref08_Two: function 40 -/
def aviaryref08_Two.f (a0 : Int) : Option (ByteArray) := some (strOfNums (([(Int.tmod (Int.tmod (wrap64 ((Int.tmod a0 65536) + 65536)) 65536) 256) % 256, (wrap64 (Int.tdiv (Int.tmod (wrap64 ((Int.tmod a0 65536) + 65536)) 65536) 256)) % 256] : List Int)))
set_option maxHeartbeats 8000000 in
set_option maxRecDepth 100000 in
theorem aviaryref08_Two.calls (a0 : Int) (r : ByteArray) (w : World) (h : aviaryref08_Two.f a0 = some r) :
    Calls Try.prog 40 #[.int .i64 a0] w fun e w' => e = .returned (.string r) ∧ Below w.heap.size w w' := by
  have HB := Aside0.mk (Below.refl w.heap.size w)
  have H : (some (strOfNums (([(Int.tmod (Int.tmod (wrap64 ((Int.tmod a0 65536) + 65536)) 65536) 256) % 256, (wrap64 (Int.tdiv (Int.tmod (wrap64 ((Int.tmod a0 65536) + 65536)) 65536) 256)) % 256] : List Int)))) = some r := h
  clear h
  obtain ⟨y184, hy184⟩ : ∃ y_ : List Int, y_ = (([(Int.tmod (Int.tmod (wrap64 ((Int.tmod a0 65536) + 65536)) 65536) 256) % 256, (wrap64 (Int.tdiv (Int.tmod (wrap64 ((Int.tmod a0 65536) + 65536)) 65536) 256)) % 256] : List Int)) := ⟨_, rfl⟩
  replace H : (some (strOfNums y184)) = some r := by first | (rw [hy184]; with_reducible exact H) | (have H2_ := (Option.bind_some _ _).symm.trans H; rw [hy184]; with_reducible exact H2_) | (have H2_ := (Option.bind_some _ _).symm.trans H; with_reducible exact H2_) | with_reducible exact H | (rw [hy184]; exact H) | exact H
  have Ny184 := Aside0.mk hy184
  clear hy184
  obtain rfl := Option.some.inj H
  go_enter Try.func40, Try.ntmps40
  go_wp2_with (first | ((with_reducible refine gate_dst (N := 13) rfl ?_); refine Kd.R_lit (Kd.int .u8) _ 5 ?hg (N := 13) ?hd (xs := ([(Int.tmod (Int.tmod (wrap64 ((Int.tmod a0 65536) + 65536)) 65536) 256) % 256, (wrap64 (Int.tdiv (Int.tmod (wrap64 ((Int.tmod a0 65536) + 65536)) 65536) 256)) % 256] : List Int)) (inner := [.int .u8 ((Int.tmod (Int.tmod (wrap64 ((Int.tmod a0 65536) + 65536)) 65536) 256) % 256), .int .u8 ((wrap64 (Int.tdiv (Int.tmod (wrap64 ((Int.tmod a0 65536) + 65536)) 65536) 256)) % 256)]) (ok := fun _ => True) (okp := fun _ => True) ?hr ?hp (fun _ hk => hk) trivial (Below.refl _ _) (Nat.le_refl _) (by simp) ?_; (case hd => rfl); (case hg => rfl); (case hr => first | (go_simp; done) | (go_simp; rfl)); (case hp => exact (Reps.one (show Kd.M (Kd.int .u8) _ _ _ ((Int.tmod (Int.tmod (wrap64 ((Int.tmod a0 65536) + 65536)) 65536) 256) % 256) [.int .u8 ((Int.tmod (Int.tmod (wrap64 ((Int.tmod a0 65536) + 65536)) 65536) 256) % 256)] from rfl) (Reps.one (show Kd.M (Kd.int .u8) _ _ _ ((wrap64 (Int.tdiv (Int.tmod (wrap64 ((Int.tmod a0 65536) + 65536)) 65536) 256)) % 256) [.int .u8 ((wrap64 (Int.tdiv (Int.tmod (wrap64 ((Int.tmod a0 65536) + 65536)) 65536) 256)) % 256)] from rfl) (Reps.none _ _)))); intro v185 w2 ho3 hb hg_ hnew_; clear hg_ hnew_; (first | rw [← Ny184.out] at ho3 | (simp only [Int.reduceToNat] at ho3; rw [← Ny184.out] at ho3)); have n0_ := Aside0.mk (Kd.R_lower ho3 (below_size (by repeat (first | (with_reducible first | exact HB.out | apply below_alloc | apply pw_below_drewN | apply below_drew1) | exact HB.out)))); have n1_ := Aside0.mk (below_step (by repeat (first | (with_reducible first | exact HB.out | apply below_alloc | apply pw_below_drewN | apply below_drew1) | exact HB.out)) hb); clear HB; have HO186 := n0_; have HB := n1_; clear n0_ n1_; clear hb ho3; have hcv4 := own_string (P := Try.prog) Try.underlying85 Try.underlying5 Try.underlying9 (Kd.own_of_R HO186.out)))
  go_ret
  exact ⟨by first | rfl | (simp [errW_none, errW_some] <;> rfl) | (simp [*, errW_none, errW_some] <;> rfl), by repeat (first | (with_reducible first | exact HB.out | apply below_alloc | apply pw_below_drewN | apply below_drew1) | exact HB.out)⟩

/-! ### aviaryref08_Sum: function 57 -/
def aviaryref08_Sum.l0 : Nat → ByteArray → Int → Int → Int → Option (Int)
  | 0, _, _, _, _ => none
  | k + 1, x0, x3, x4, x5 => if x5 < (x0.size : Int) then (if 0 ≤ x5 then (aviaryref08_Sum.l0 k x0 (Int.tmod (wrap64 (x3 + (wrap64 (bt x0 x5)))) 255) (Int.tmod (wrap64 (x4 + (Int.tmod (wrap64 (x3 + (wrap64 (bt x0 x5)))) 255))) 255) (wrap64 (x5 + 1))) else (none)) else (some (wrap64 ((wrap64 (256 * x4)) + x3)))
def aviaryref08_Sum.f (k : Nat) (a0 : ByteArray) : Option (Int) := aviaryref08_Sum.l0 k a0 0 0 0
theorem aviaryref08_Sum.mono_l : ∀ k, (∀ y0 y1 y2 y3, LeO (aviaryref08_Sum.l0 k y0 y1 y2 y3) (aviaryref08_Sum.l0 (k + 1) y0 y1 y2 y3))
  | 0 => fun _ _ _ _ r h => by simp [aviaryref08_Sum.l0] at h
  | k + 1 => by
    have ih0 := aviaryref08_Sum.mono_l k
    · intro y0 y1 y2 y3
      unfold aviaryref08_Sum.l0
      repeat' first
      | (with_reducible exact ih0 _ _ _ _)
      | (with_reducible exact LeO.refl _)
      | (with_reducible exact LeO.none _)
      | (with_reducible refine LeO.ite ?_ ?_)
      | (with_reducible refine LeO.bind ?_ (fun _ => ?_))
      | exact ih0 _ _ _ _
      | exact LeO.none _
      | refine LeO.ite ?_ ?_
      | refine LeO.bind ?_ (fun _ => ?_)
theorem aviaryref08_Sum.mono : ∀ a0 k, LeO (aviaryref08_Sum.f k a0) (aviaryref08_Sum.f (k + 1) a0) := by
  intro a0 k
  have ih0 := aviaryref08_Sum.mono_l k
  unfold aviaryref08_Sum.f
  repeat' first
      | (with_reducible exact ih0 _ _ _ _)
      | (with_reducible exact LeO.refl _)
      | (with_reducible exact LeO.none _)
      | (with_reducible refine LeO.ite ?_ ?_)
      | (with_reducible refine LeO.bind ?_ (fun _ => ?_))
      | exact ih0 _ _ _ _
      | exact LeO.none _
      | refine LeO.ite ?_ ?_
      | refine LeO.bind ?_ (fun _ => ?_)
set_option maxHeartbeats 8000000 in
set_option maxRecDepth 100000 in
theorem aviaryref08_Sum.calls (k : Nat) (a0 : ByteArray) (r : Int) (w : World) (h : aviaryref08_Sum.f k a0 = some r) :
    Calls Try.prog 57 #[.string a0] w fun e w' => e = .returned (.int .i64 r) ∧ Drawn0 w w' := by
  have H : (aviaryref08_Sum.l0 k a0 0 0 0) = some r := h
  clear h
  have H' := Aside0.mk H
  clear H
  go_enter Try.func57, Try.ntmps57
  go_wp2
  go_loopg [3, 4, 5] k (fun kq v3 v4 v5 w' => ∃ (x3_1 : Int) (x4_1 : Int) (x5_1 : Int), v3 = .int .i64 x3_1 ∧ v4 = .int .i64 x4_1 ∧ v5 = .int .i64 x5_1 ∧ Aside0 (aviaryref08_Sum.l0 kq a0 x3_1 x4_1 x5_1 = some r) ∧ Aside0 (kq ≤ k) ∧ Drawn0 w w')
  case atStart => exact ⟨(0), (0), (0), (by first | rfl | (simp; done) | (simp [*]; done)), (by first | rfl | (simp; done) | (simp [*]; done)), (by first | rfl | (simp; done) | (simp [*]; done)), H', ⟨Nat.le_refl _⟩, by repeat (first | exact Drawn0.refl _ | apply Drawn0.step)⟩
  case round =>
    clear H'
    obtain ⟨x3_1, x4_1, x5_1, rfl, rfl, rfl, HA, HK1, ⟨m1, rfl⟩⟩ := hrel
    cases gk with
    | zero => exact absurd HA.out (by simp [aviaryref08_Sum.l0])
    | succ k1 =>
      have H := HA.out
      clear HA
      simp only [aviaryref08_Sum.l0] at H
      by_cases c2 : x5_1 < (a0.size : Int)
      · rw [if_pos c2] at H
        have c2b0 : decide (x5_1 < (a0.size : Int)) = true := decide_eq_true c2
        clear c2
        by_cases c3 : 0 ≤ x5_1
        · rw [if_pos c3] at H
          have c3b0 : decide (0 ≤ x5_1) = true := decide_eq_true c3
          clear c3
          have H' := Aside0.mk H
          clear H
          have p4 : 0 ≤ (x5_1 : Int) := of_decide_eq_true (by first | (with_reducible assumption) | assumption)
          have q4 : x5_1 < (a0.size : Int) := of_decide_eq_true (by first | (with_reducible assumption) | assumption)
          have hx4 := bt_at a0 x5_1
          replace p4 := eq_true p4
          replace q4 := eq_true q4
          go_wp2
          go_roundg k1
          case measure => have := HK1.out; omega
          case rel => exact ⟨(Int.tmod (wrap64 (x3_1 + (wrap64 (bt a0 x5_1)))) 255), (Int.tmod (wrap64 (x4_1 + (Int.tmod (wrap64 (x3_1 + (wrap64 (bt a0 x5_1)))) 255))) 255), (wrap64 (x5_1 + 1)), (by first | rfl | (simp; done) | (simp [*]; done)), (by first | rfl | (simp; done) | (simp [*]; done)), (by first | rfl | (simp; done) | (simp [*]; done)), H', ⟨by have := HK1.out; omega⟩, by repeat (first | exact Drawn0.refl _ | apply Drawn0.step)⟩
        · rw [if_neg c3] at H
          exact absurd H (by simp)
      · rw [if_neg c2] at H
        have c2b0 : decide (x5_1 < (a0.size : Int)) = false := decide_eq_false c2
        clear c2
        obtain rfl := Option.some.inj H
        go_wp2
        go_ret
        exact ⟨by first | rfl | (simp; done) | (simp [*]; done), by repeat (first | exact Drawn0.refl _ | apply Drawn0.step)⟩

/-! ### aviaryref08_Seal: function 39 -/
def aviaryref08_Seal.f (k : Nat) (a0 : ByteArray) : Option (ByteArray) := (aviaryref08_Sum.f k a0).bind fun t187 => ((aviaryref08_Two.f t187).bind fun t188 => (if a0.size + t188.size ≤ 9223372036854775807 then (some (a0 ++ t188)) else (none)))
theorem aviaryref08_Seal.mono : ∀ a0 k, LeO (aviaryref08_Seal.f k a0) (aviaryref08_Seal.f (k + 1) a0) := by
  intro a0 k
  unfold aviaryref08_Seal.f
  repeat' first
      | (with_reducible exact aviaryref08_Sum.mono _ _)
      | (with_reducible exact LeO.refl _)
      | (with_reducible exact LeO.none _)
      | (with_reducible refine LeO.ite ?_ ?_)
      | (with_reducible refine LeO.bind ?_ (fun _ => ?_))
      | exact aviaryref08_Sum.mono _ _
      | exact LeO.none _
      | refine LeO.ite ?_ ?_
      | refine LeO.bind ?_ (fun _ => ?_)
set_option maxHeartbeats 8000000 in
set_option maxRecDepth 100000 in
theorem aviaryref08_Seal.calls (k : Nat) (a0 : ByteArray) (r : ByteArray) (w : World) (h : aviaryref08_Seal.f k a0 = some r) :
    Calls Try.prog 39 #[.string a0] w fun e w' => e = .returned (.string r) ∧ Below w.heap.size w w' := by
  have HB := Aside0.mk (Below.refl w.heap.size w)
  have H : ((aviaryref08_Sum.f k a0).bind fun t187 => ((aviaryref08_Two.f t187).bind fun t188 => (if a0.size + t188.size ≤ 9223372036854775807 then (some (a0 ++ t188)) else (none)))) = some r := h
  clear h
  replace H := Option.bind_eq_some_iff.mp H
  obtain ⟨t187, A20, H⟩ := H
  replace H : ((aviaryref08_Two.f t187).bind fun t188 => (if a0.size + t188.size ≤ 9223372036854775807 then (some (a0 ++ t188)) else (none))) = some r := H
  have A2 := Aside0.mk A20
  clear A20
  replace H := Option.bind_eq_some_iff.mp H
  obtain ⟨t188, A30, H⟩ := H
  replace H : (if a0.size + t188.size ≤ 9223372036854775807 then (some (a0 ++ t188)) else (none)) = some r := H
  have A3 := Aside0.mk A30
  clear A30
  by_cases c4 : a0.size + t188.size ≤ 9223372036854775807
  · rw [if_pos c4] at H
    have c4b0 := eq_true c4
    have c4b1 : decide (a0.size + t188.size ≤ 9223372036854775807) = true := decide_eq_true c4
    try have c4b2 : (9223372036854775807 < a0.size + t188.size) = False := eq_false (Nat.not_lt.2 c4)
    obtain rfl := Option.some.inj H
    go_enter Try.func39, Try.ntmps39
    go_wp2_with (first | ((with_reducible refine gate_callee (f := 57) rfl ?_); refine goesL_ (some 5) rfl rfl Try.func57 (by kernel_rfl) rfl #[.string a0] rfl (by (try simp only [List.map_toArray, List.map_cons, List.map_nil]); first | done | rfl | (simp only [List.length_drop, List.length_take]; rfl)) ?_; (with_reducible refine (aviaryref08_Sum.calls k a0 t187 _ A2.out).mono ?_); rintro e w' ⟨rfl, ⟨nd, rfl⟩⟩; refine ⟨_, rfl, ?_⟩) | ((with_reducible refine gate_callee (f := 40) rfl ?_); refine goesL_ (some 6) rfl rfl Try.func40 (by kernel_rfl) rfl #[.int .i64 t187] rfl (by (try simp only [List.map_toArray, List.map_cons, List.map_nil]); first | done | rfl | (simp only [List.length_drop, List.length_take]; rfl)) ?_; (with_reducible refine (aviaryref08_Two.calls t187 t188 _ A3.out).mono ?_); rintro e w5 ⟨rfl, hb⟩; refine ⟨_, rfl, ?_⟩; have n0_ := Aside0.mk (below_step (by repeat (first | (with_reducible first | exact HB.out | apply below_alloc | apply pw_below_drewN | apply below_drew1) | exact HB.out)) hb); clear HB; have HB := n0_; clear n0_; (try clear hb); (try clear hb2); (try clear hk); (try clear hi)))
    go_ret
    exact ⟨by first | rfl | (simp [errW_none, errW_some] <;> rfl) | (simp [*, errW_none, errW_some] <;> rfl), by repeat (first | (with_reducible first | exact HB.out | apply below_alloc | apply pw_below_drewN | apply below_drew1) | exact HB.out)⟩
  · rw [if_neg c4] at H
    exact absurd H (by simp)

/-! ### aviaryref08_Open: function 48 -/
def aviaryref08_Open.f (k : Nat) (a0 : ByteArray) : Option (ByteArray × Int) := if (a0.size : Int) < 2 then (some ((⟨#[]⟩ : ByteArray), 22)) else (if 0 ≤ (wrap64 ((a0.size : Int) - 2)) then (if (wrap64 ((a0.size : Int) - 2)) ≤ (a0.size : Int) then ((aviaryref08_Seal.f k (a0.extract 0 ((wrap64 ((a0.size : Int) - 2)) : Int).toNat)).bind fun t189 => (if t189.toList = a0.toList then (some (a0.extract 0 ((wrap64 ((a0.size : Int) - 2)) : Int).toNat, 0)) else (some ((⟨#[]⟩ : ByteArray), 24)))) else (none)) else (none))
theorem aviaryref08_Open.mono : ∀ a0 k, LeO (aviaryref08_Open.f k a0) (aviaryref08_Open.f (k + 1) a0) := by
  intro a0 k
  unfold aviaryref08_Open.f
  repeat' first
      | (with_reducible exact aviaryref08_Seal.mono _ _)
      | (with_reducible exact LeO.refl _)
      | (with_reducible exact LeO.none _)
      | (with_reducible refine LeO.ite ?_ ?_)
      | (with_reducible refine LeO.bind ?_ (fun _ => ?_))
      | exact aviaryref08_Seal.mono _ _
      | exact LeO.none _
      | refine LeO.ite ?_ ?_
      | refine LeO.bind ?_ (fun _ => ?_)
set_option maxHeartbeats 8000000 in
set_option maxRecDepth 100000 in
theorem aviaryref08_Open.calls (k : Nat) (a0 : ByteArray) (r1 : ByteArray) (r2 : Int) (w : World) (h : aviaryref08_Open.f k a0 = some (r1, r2)) :
    Calls Try.prog 48 #[.string a0] w fun e w' => e = .returned (.tuple #[.string r1, .int .i64 r2]) ∧ Below w.heap.size w w' := by
  have HB := Aside0.mk (Below.refl w.heap.size w)
  have H : (if (a0.size : Int) < 2 then (some ((⟨#[]⟩ : ByteArray), 22)) else (if 0 ≤ (wrap64 ((a0.size : Int) - 2)) then (if (wrap64 ((a0.size : Int) - 2)) ≤ (a0.size : Int) then ((aviaryref08_Seal.f k (a0.extract 0 ((wrap64 ((a0.size : Int) - 2)) : Int).toNat)).bind fun t189 => (if t189.toList = a0.toList then (some (a0.extract 0 ((wrap64 ((a0.size : Int) - 2)) : Int).toNat, 0)) else (some ((⟨#[]⟩ : ByteArray), 24)))) else (none)) else (none))) = some (r1, r2) := h
  clear h
  by_cases c2 : (a0.size : Int) < 2
  · rw [if_pos c2] at H
    have c2b0 : decide ((a0.size : Int) < 2) = true := decide_eq_true c2
    have c2b1 : decide (a0.size < 2) = true := decide_eq_true (by omega)
    clear c2
    simp only [Option.some.injEq, Prod.mk.injEq] at H
    obtain ⟨rfl, rfl⟩ := H
    go_enter Try.func48, Try.ntmps48
    go_wp2
    go_ret2
    exact ⟨by first | rfl | (simp [errW_none, errW_some] <;> rfl) | (simp [*, errW_none, errW_some] <;> rfl), by repeat (first | (with_reducible first | exact HB.out | apply below_alloc | apply pw_below_drewN | apply below_drew1) | exact HB.out)⟩
  · rw [if_neg c2] at H
    have c2b0 : decide ((a0.size : Int) < 2) = false := decide_eq_false c2
    have c2b1 : decide (a0.size < 2) = false := decide_eq_false (by omega)
    clear c2
    obtain ⟨ji3, hji3⟩ : ∃ j_ : Int, (wrap64 ((a0.size : Int) - 2)) = j_ := ⟨_, rfl⟩
    replace H : (if 0 ≤ (ji3) then (if (ji3) ≤ (a0.size : Int) then ((aviaryref08_Seal.f k (a0.extract 0 ((ji3) : Int).toNat)).bind fun t189 => (if t189.toList = a0.toList then (some (a0.extract 0 ((ji3) : Int).toNat, 0)) else (some ((⟨#[]⟩ : ByteArray), 24)))) else (none)) else (none)) = some (r1, r2) := by first | (rw [hji3] at H; exact H) | (simp only [hji3] at H ⊢; exact H)
    have hji3w : (IntKind.i64.wrap ((a0.size : Int) - 2)) = ji3 := (i64_w _).trans hji3
    by_cases c4 : 0 ≤ (ji3)
    · rw [if_pos c4] at H
      have c4b0 := eq_true c4
      have c4b1 : decide (0 ≤ (ji3)) = true := decide_eq_true c4
      clear c4
      by_cases c5 : (ji3) ≤ (a0.size : Int)
      · rw [if_pos c5] at H
        have c5b0 := eq_true c5
        have c5b1 : decide ((ji3) ≤ (a0.size : Int)) = true := decide_eq_true c5
        clear c5
        replace H := Option.bind_eq_some_iff.mp H
        obtain ⟨t189, A60, H⟩ := H
        replace H : (if t189.toList = a0.toList then (some (a0.extract 0 ((ji3) : Int).toNat, 0)) else (some ((⟨#[]⟩ : ByteArray), 24))) = some (r1, r2) := H
        have A6 := Aside0.mk A60
        clear A60
        by_cases c7 : t189.toList = a0.toList
        · rw [if_pos c7] at H
          have c7b0 : (t189.toList == a0.toList) = true := beq_iff_eq.mpr c7
          have c7b1 : (t189.toList != a0.toList) = false := bne_eq_false_iff_eq.mpr c7
          clear c7
          simp only [Option.some.injEq, Prod.mk.injEq] at H
          obtain ⟨rfl, rfl⟩ := H
          go_enter Try.func48, Try.ntmps48
          go_wp2_with (first | ((with_reducible refine gate_callee (f := 39) rfl ?_); refine goesL_ (some 14) rfl rfl Try.func39 (by kernel_rfl) rfl #[.string (a0.extract 0 ((ji3) : Int).toNat)] rfl (by (try simp only [List.map_toArray, List.map_cons, List.map_nil]); first | done | (simp only [hji3]; rfl) | rfl | (simp only [List.length_drop, List.length_take]; rfl)) ?_; (with_reducible refine (aviaryref08_Seal.calls k (a0.extract 0 ((ji3) : Int).toNat) t189 _ A6.out).mono ?_); rintro e w8 ⟨rfl, hb⟩; refine ⟨_, rfl, ?_⟩; have n0_ := Aside0.mk (below_step (by repeat (first | (with_reducible first | exact HB.out | apply below_alloc | apply pw_below_drewN | apply below_drew1) | exact HB.out)) hb); clear HB; have HB := n0_; clear n0_; (try clear hb); (try clear hb2); (try clear hk); (try clear hi)))
          go_ret2
          exact ⟨by first | rfl | (simp [errW_none, errW_some] <;> rfl) | (simp only [← hji3]; first | rfl | (simp [errW_none, errW_some] <;> rfl)) | (simp [*, errW_none, errW_some] <;> rfl), by repeat (first | (with_reducible first | exact HB.out | apply below_alloc | apply pw_below_drewN | apply below_drew1) | exact HB.out)⟩
        · rw [if_neg c7] at H
          have c7b0 : (t189.toList == a0.toList) = false := beq_eq_false_iff_ne.mpr c7
          have c7b1 : (t189.toList != a0.toList) = true := bne_iff_ne.mpr c7
          simp only [Option.some.injEq, Prod.mk.injEq] at H
          obtain ⟨rfl, rfl⟩ := H
          go_enter Try.func48, Try.ntmps48
          go_wp2_with (first | ((with_reducible refine gate_callee (f := 39) rfl ?_); refine goesL_ (some 14) rfl rfl Try.func39 (by kernel_rfl) rfl #[.string (a0.extract 0 ((ji3) : Int).toNat)] rfl (by (try simp only [List.map_toArray, List.map_cons, List.map_nil]); first | done | (simp only [hji3]; rfl) | rfl | (simp only [List.length_drop, List.length_take]; rfl)) ?_; (with_reducible refine (aviaryref08_Seal.calls k (a0.extract 0 ((ji3) : Int).toNat) t189 _ A6.out).mono ?_); rintro e w9 ⟨rfl, hb⟩; refine ⟨_, rfl, ?_⟩; have n0_ := Aside0.mk (below_step (by repeat (first | (with_reducible first | exact HB.out | apply below_alloc | apply pw_below_drewN | apply below_drew1) | exact HB.out)) hb); clear HB; have HB := n0_; clear n0_; (try clear hb); (try clear hb2); (try clear hk); (try clear hi)))
          go_ret2
          exact ⟨by first | rfl | (simp [errW_none, errW_some] <;> rfl) | (simp only [← hji3]; first | rfl | (simp [errW_none, errW_some] <;> rfl)) | (simp [*, errW_none, errW_some] <;> rfl), by repeat (first | (with_reducible first | exact HB.out | apply below_alloc | apply pw_below_drewN | apply below_drew1) | exact HB.out)⟩
      · rw [if_neg c5] at H
        exact absurd H (by simp)
    · rw [if_neg c4] at H
      exact absurd H (by simp)

/-- A state of type 79 at block g of W; what its slices lead to came in by w0. -/
def IsS79 (w0 W : World) (g : Nat) (f0 : ByteArray) (f1 : Int) : Prop := W.heap[g]? = some (.cells #[.string f0, .int .i64 f1] 79 (0, 0)) ∧ w0.heap.size ≤ g
theorem IsS79.grown {w0 W : World} {g : Nat} {f0 : ByteArray} {f1 : Int} {W1 : World} {row : Option Nat} (h : IsS79 w0 W g f0 f1) (hw : W.grownBy W1 row) (hne : some g ≠ row) : IsS79 w0 W1 g f0 f1 := by
  obtain ⟨hb, hg⟩ := h
  exact ⟨blk_grown hb hw hne, hg⟩
theorem IsS79.own_neN {w0 W : World} {g : Nat} {f0 : ByteArray} {f1 : Int} {α : Type} {d : Kd α} {e : Nat} {base : Nat} {ok : Nat → Prop} {v : Value} {xs : List α} (h : IsS79 w0 W g f0 f1) (ho : Kd.N d e W base ok v xs) (ht : e ≠ 79) : some g ≠ v.ownBlock := by
  obtain ⟨hb, hg⟩ := h
  exact Kd.N_ne ho hb ht
theorem IsS79.fresh {w0 W : World} {g : Nat} {f0 : ByteArray} {f1 : Int} (h : IsS79 w0 W g f0 f1) : ∀ k, W.heap.size ≤ k → k ≠ g := by
  obtain ⟨hb, hg⟩ := h
  exact Kd.freshB hb
theorem IsS79.kept {w0 W : World} {g : Nat} {f0 : ByteArray} {f1 : Int} {W1 : World} {S : Nat → Prop} (h : IsS79 w0 W g f0 f1) (hk : Kept W W1 S) (hne : ¬ S g) : IsS79 w0 W1 g f0 f1 := by
  obtain ⟨hb, hg⟩ := h
  exact ⟨blk_kept hb hk hne, hg⟩
theorem IsS79.below {w0 W : World} {g : Nat} {f0 : ByteArray} {f1 : Int} {W1 : World} (h : IsS79 w0 W g f0 f1) (hw : Below W.heap.size W W1) : IsS79 w0 W1 g f0 f1 := h.grown (grown_of_below hw none) (by simp)
theorem IsS79.alloc {w0 W : World} {g : Nat} {f0 : ByteArray} {f1 : Int} (h : IsS79 w0 W g f0 f1) (o : Obj) : IsS79 w0 (W.alloc o) g f0 f1 := h.below (below_alloc (Below.refl _ _) o)
theorem IsS79.drewN {w0 W : World} {g : Nat} {f0 : ByteArray} {f1 : Int} (h : IsS79 w0 W g f0 f1) (m : Nat) : IsS79 w0 (W.drewN m) g f0 f1 := h
theorem IsS79.drew {w0 W : World} {g : Nat} {f0 : ByteArray} {f1 : Int} (h : IsS79 w0 W g f0 f1) : IsS79 w0 W.drew g f0 f1 := h
theorem IsS79.at_ {w0 W : World} {g : Nat} {f0 : ByteArray} {f1 : Int} {w' : World} {m : Nat} (hq : W.drewN m = w') (h : IsS79 w0 W g f0 f1) : IsS79 w0 w' g f0 f1 := by subst hq; exact IsS79.drewN h m
theorem IsS79.apart {w0 W : World} {g : Nat} {f0 : ByteArray} {f1 : Int} {α : Type} {d : Kd α} {e : Nat} {base : Nat} {ok : Nat → Prop} {v : Value} {xs : List α} (h : IsS79 w0 W g f0 f1) (ho : d.R e W base ok v xs) (ht : ∀ q, q ∈ e :: d.E → q ≠ 79) : d.R e W base (fun k => ok k ∧ k ≠ g) v xs := by
  obtain ⟨hb, hg⟩ := h
  exact Kd.R_types ho hb ht
theorem IsS79.own_ne {w0 W : World} {g : Nat} {f0 : ByteArray} {f1 : Int} {α : Type} {d : Kd α} {e : Nat} {base : Nat} {ok : Nat → Prop} {v : Value} {xs : List α} (h : IsS79 w0 W g f0 f1) (ho : d.R e W base ok v xs) (ht : e ≠ 79) : some g ≠ v.ownBlock := by
  obtain ⟨hb, hg⟩ := h
  exact Kd.R_ne ho hb ht
theorem IsS79.apartQ {w0 W : World} {g : Nat} {f0 : ByteArray} {f1 : Int} {α : Type} {d : Kd α} {e : Nat} {base : Nat} {ok : Nat → Prop} {v : Value} {xs : List α} (h : IsS79 w0 W g f0 f1) (ho : d.Q e W base ok v xs) (ht : ∀ q, q ∈ e :: d.E → q ≠ 79) : d.Q e W base (fun k => ok k ∧ k ≠ g) v xs := by
  obtain ⟨hb, hg⟩ := h
  exact Kd.Q_types ho hb ht
theorem IsS79.own_neQ {w0 W : World} {g : Nat} {f0 : ByteArray} {f1 : Int} {α : Type} {d : Kd α} {e : Nat} {base : Nat} {ok : Nat → Prop} {v : Value} {xs : List α} (h : IsS79 w0 W g f0 f1) (ho : d.Q e W base ok v xs) (ht : e ≠ 79) : some g ≠ v.ownBlock := by
  obtain ⟨hb, hg⟩ := h
  exact Kd.Q_ne ho hb ht
theorem IsS79.apartS {w0 W : World} {g : Nat} {f0 : ByteArray} {f1 : Int} {α : Type} {d : Kd α} {e : Nat} {base : Nat} {ok : Nat → Prop} {v : Value} {xs : List α} (h : IsS79 w0 W g f0 f1) (ho : d.S e W base ok v xs) (ht : ∀ q, q ∈ e :: d.E → q ≠ 79) : d.S e W base (fun k => ok k ∧ k ≠ g) v xs := by
  obtain ⟨hb, hg⟩ := h
  exact Kd.S_types ho hb ht
theorem IsS79.own_neS {w0 W : World} {g : Nat} {f0 : ByteArray} {f1 : Int} {α : Type} {d : Kd α} {e : Nat} {base : Nat} {ok : Nat → Prop} {v : Value} {xs : List α} (h : IsS79 w0 W g f0 f1) (ho : d.S e W base ok v xs) (ht : e ≠ 79) : some g ≠ v.ownBlock := by
  obtain ⟨hb, hg⟩ := h
  exact Kd.S_ne ho hb ht
theorem IsS79.lt {w0 W : World} {g : Nat} {f0 : ByteArray} {f1 : Int} (h : IsS79 w0 W g f0 f1) : g < W.heap.size := by
  obtain ⟨hb, hg⟩ := h
  exact blk_lt hb
theorem IsS79.ge {w0 W : World} {g : Nat} {f0 : ByteArray} {f1 : Int} (h : IsS79 w0 W g f0 f1) : w0.heap.size ≤ g := by
  obtain ⟨hb, hg⟩ := h
  exact hg
theorem IsS79.ne_blk {w0 W : World} {g : Nat} {f0 : ByteArray} {f1 : Int} {a : Nat} {cs : Array Value} {t : TypeId} {fr : Nat × Nat} (h : IsS79 w0 W g f0 f1) (hb2 : W.heap[a]? = some (.cells cs t fr)) (ht : t ≠ 79) : g ≠ a := by
  obtain ⟨hb, hg⟩ := h
  rintro rfl
  rw [hb] at hb2
  injection hb2 with hb2
  injection hb2 with _ ht2
  exact ht ht2.symm
theorem IsS79.far {w0 W : World} {g : Nat} {f0 : ByteArray} {f1 : Int} {p : Addr} (h : IsS79 w0 W g f0 f1) (hne : g ≠ p.block) (u : Value) : IsS79 w0 (W.setCell p u) g f0 f1 := by
  obtain ⟨hb, hg⟩ := h
  exact ⟨blk_far hb hne u, hg⟩
theorem cellS79_0 {W : World} {g : Nat} {f0 : ByteArray} {f1 : Int} (h : W.heap[g]? = some (.cells #[.string f0, .int .i64 f1] 79 (0, 0))) : W.cell? ⟨g, 0, none⟩ = some (.string f0) := (blk_cell h 0).trans rfl
theorem IsS79.set_0 {w0 W : World} {g : Nat} {f0 : ByteArray} {f1 : Int} (h : IsS79 w0 W g f0 f1) (x : ByteArray) : IsS79 w0 (W.setCell ⟨g, 0, none⟩ (.string x)) g x f1 := by
  obtain ⟨hb, hg⟩ := h
  exact ⟨by simpa using blk_set hb 0 (.string x), hg⟩
theorem cellS79_1 {W : World} {g : Nat} {f0 : ByteArray} {f1 : Int} (h : W.heap[g]? = some (.cells #[.string f0, .int .i64 f1] 79 (0, 0))) : W.cell? ⟨g, 1, none⟩ = some (.int .i64 f1) := (blk_cell h 1).trans rfl
theorem IsS79.set_1 {w0 W : World} {g : Nat} {f0 : ByteArray} {f1 : Int} (h : IsS79 w0 W g f0 f1) (x : Int) : IsS79 w0 (W.setCell ⟨g, 1, none⟩ (.int .i64 x)) g f0 x := by
  obtain ⟨hb, hg⟩ := h
  exact ⟨by simpa using blk_set hb 1 (.int .i64 x), hg⟩
theorem IsS79.new (w0 W : World) (f0 : ByteArray) (f1 : Int) (hB : Below w0.heap.size w0 W) : IsS79 w0 (W.alloc (.cells #[.string f0, .int .i64 f1] 79)) W.heap.size f0 f1 := ⟨by simpa using heap_alloc_new W _, hB.size⟩

/-! ### aviaryref08_Reader_Two: function 49 -/
def aviaryref08_Reader_Two.f (s0_0 : ByteArray) (s0_1 : Int) : Option (Int × ByteArray × Int) := if s0_1 = 0 then (if (s0_0.size : Int) < 2 then (some (0, s0_0, 22)) else (if 0 < (s0_0.size : Int) then (if 1 < (s0_0.size : Int) then (if 2 ≤ (s0_0.size : Int) then (some (wrap64 ((wrap64 (bt s0_0 0)) + (wrap64 (256 * (wrap64 (bt s0_0 1))))), s0_0.extract 2 s0_0.size, s0_1)) else (none)) else (none)) else (none))) else (some (0, s0_0, s0_1))
set_option maxHeartbeats 8000000 in
set_option maxRecDepth 100000 in
theorem aviaryref08_Reader_Two.calls (g : Nat) (s0_0 : ByteArray) (s0_1 : Int) (r1 : Int) (r2 : ByteArray) (r3 : Int) (w0 w : World) (hI : IsS79 w0 w g s0_0 s0_1) (hB : Below w0.heap.size w0 w) (h : aviaryref08_Reader_Two.f s0_0 s0_1 = some (r1, r2, r3)) :
    Calls Try.prog 49 #[.pointer (some ⟨g, 0, none⟩)] w fun e w' => e = .returned (.int .i64 r1) ∧ IsS79 w0 w' g r2 r3 ∧ Below w0.heap.size w0 w' ∧ KeepBut w w' g none := by
  have HI0 := Aside0.mk hI
  have HK := Aside0.mk (KeepBut.refl w g none)
  have HL := Aside0.mk hB.size
  clear hI
  have HW0 := Aside0.mk hB.size
  have HB := Aside0.mk hB
  clear hB
  have H : (if s0_1 = 0 then (if (s0_0.size : Int) < 2 then (some (0, s0_0, 22)) else (if 0 < (s0_0.size : Int) then (if 1 < (s0_0.size : Int) then (if 2 ≤ (s0_0.size : Int) then (some (wrap64 ((wrap64 (bt s0_0 0)) + (wrap64 (256 * (wrap64 (bt s0_0 1))))), s0_0.extract 2 s0_0.size, s0_1)) else (none)) else (none)) else (none))) else (some (0, s0_0, s0_1))) = some (r1, r2, r3) := h
  clear h
  by_cases c2 : s0_1 = 0
  · rw [if_pos c2] at H
    have c2b0 : (s0_1 == 0) = true := beq_iff_eq.mpr c2
    have c2b1 : (s0_1 != 0) = false := bne_eq_false_iff_eq.mpr c2
    clear c2
    by_cases c3 : (s0_0.size : Int) < 2
    · rw [if_pos c3] at H
      have c3b0 : decide ((s0_0.size : Int) < 2) = true := decide_eq_true c3
      have c3b1 : decide (s0_0.size < 2) = true := decide_eq_true (by omega)
      clear c3
      simp only [Option.some.injEq, Prod.mk.injEq] at H
      obtain ⟨rfl, rfl, rfl⟩ := H
      obtain ⟨HGz4, hgz4⟩ := HI0.out
      have hcz4_0 := cellS79_0 HGz4
      have hcz4_1 := cellS79_1 HGz4
      have hfz4_0 := blk_frozen HGz4 0
      have hfz4_1 := blk_frozen HGz4 1
      clear HGz4 hgz4
      go_enter Try.func49, Try.ntmps49
      go_wp2
      repeat (go_quiet (fail); try go_wp2)
      go_ret
      exact ⟨by first | rfl | (simp [errW_none, errW_some] <;> rfl) | (simp [*, errW_none, errW_some] <;> rfl), by repeat (first | (with_reducible first | exact HI0.out | apply IsS79.alloc | apply IsS79.drewN | apply IsS79.drew | apply IsS79.set_0 | apply IsS79.set_1) | exact HI0.out), by repeat (first | (with_reducible first | exact HB.out | apply below_alloc | apply pw_below_drewN | apply below_drew1 | refine below_set ?_ (IsS79.ge HI0.out)) | exact HB.out), by repeat (first | (with_reducible first | exact HK.out | apply KeepBut.set_ | apply keep_drewN | apply keep_drew | apply keep_alloc) | exact HK.out)⟩
    · rw [if_neg c3] at H
      have c3b0 : decide ((s0_0.size : Int) < 2) = false := decide_eq_false c3
      have c3b1 : decide (s0_0.size < 2) = false := decide_eq_false (by omega)
      clear c3
      by_cases c5 : 0 < (s0_0.size : Int)
      · rw [if_pos c5] at H
        have c5b0 : decide (0 < (s0_0.size : Int)) = true := decide_eq_true c5
        have c5b1 : decide (0 < s0_0.size) = true := decide_eq_true (by omega)
        clear c5
        by_cases c7 : 1 < (s0_0.size : Int)
        · rw [if_pos c7] at H
          have c7b0 : decide (1 < (s0_0.size : Int)) = true := decide_eq_true c7
          have c7b1 : decide (1 < s0_0.size) = true := decide_eq_true (by omega)
          clear c7
          by_cases c9 : 2 ≤ (s0_0.size : Int)
          · rw [if_pos c9] at H
            have c9b0 := eq_true c9
            have c9b1 : decide (2 ≤ (s0_0.size : Int)) = true := decide_eq_true c9
            clear c9
            simp only [Option.some.injEq, Prod.mk.injEq] at H
            obtain ⟨rfl, rfl, rfl⟩ := H
            obtain ⟨HGz10, hgz10⟩ := HI0.out
            have hcz10_0 := cellS79_0 HGz10
            have hcz10_1 := cellS79_1 HGz10
            have hfz10_0 := blk_frozen HGz10 0
            have hfz10_1 := blk_frozen HGz10 1
            clear HGz10 hgz10
            have p6 : 0 ≤ (0 : Int) := (by omega)
            have q6 : 0 < s0_0.size := (by have : (0 : Int) < (s0_0.size : Int) := of_decide_eq_true (by first | (with_reducible assumption) | assumption); omega)
            have hx6 : ∀ h : 0 < s0_0.size, ((s0_0[0]'h).toNat : Int) = bt s0_0 0 := bt_at s0_0 0
            clear p6
            have qi6 : (0 < (s0_0.size : Int)) = True := eq_true (of_decide_eq_true (by first | (with_reducible assumption) | assumption))
            replace q6 := eq_true q6
            have p8 : 0 ≤ (1 : Int) := (by omega)
            have q8 : 1 < s0_0.size := (by have : (1 : Int) < (s0_0.size : Int) := of_decide_eq_true (by first | (with_reducible assumption) | assumption); omega)
            have hx8 : ∀ h : 1 < s0_0.size, ((s0_0[1]'h).toNat : Int) = bt s0_0 1 := bt_at s0_0 1
            clear p8
            have qi8 : (1 < (s0_0.size : Int)) = True := eq_true (of_decide_eq_true (by first | (with_reducible assumption) | assumption))
            replace q8 := eq_true q8
            go_enter Try.func49, Try.ntmps49
            go_wp2
            repeat (go_quiet (fail); try go_wp2)
            go_ret
            exact ⟨by first | rfl | (simp [errW_none, errW_some] <;> rfl) | (simp [*, errW_none, errW_some] <;> rfl), by repeat (first | (with_reducible first | exact HI0.out | apply IsS79.alloc | apply IsS79.drewN | apply IsS79.drew | apply IsS79.set_0 | apply IsS79.set_1) | exact HI0.out), by repeat (first | (with_reducible first | exact HB.out | apply below_alloc | apply pw_below_drewN | apply below_drew1 | refine below_set ?_ (IsS79.ge HI0.out)) | exact HB.out), by repeat (first | (with_reducible first | exact HK.out | apply KeepBut.set_ | apply keep_drewN | apply keep_drew | apply keep_alloc) | exact HK.out)⟩
          · rw [if_neg c9] at H
            exact absurd H (by simp)
        · rw [if_neg c7] at H
          exact absurd H (by simp)
      · rw [if_neg c5] at H
        exact absurd H (by simp)
  · rw [if_neg c2] at H
    have c2b0 : (s0_1 == 0) = false := beq_eq_false_iff_ne.mpr c2
    have c2b1 : (s0_1 != 0) = true := bne_iff_ne.mpr c2
    simp only [Option.some.injEq, Prod.mk.injEq] at H
    obtain ⟨rfl, rfl, rfl⟩ := H
    obtain ⟨HGz11, hgz11⟩ := HI0.out
    have hcz11_0 := cellS79_0 HGz11
    have hcz11_1 := cellS79_1 HGz11
    have hfz11_0 := blk_frozen HGz11 0
    have hfz11_1 := blk_frozen HGz11 1
    clear HGz11 hgz11
    go_enter Try.func49, Try.ntmps49
    go_wp2
    repeat (go_quiet (fail); try go_wp2)
    go_ret
    exact ⟨by first | rfl | (simp [errW_none, errW_some] <;> rfl) | (simp [*, errW_none, errW_some] <;> rfl), by repeat (first | (with_reducible first | exact HI0.out | apply IsS79.alloc | apply IsS79.drewN | apply IsS79.drew | apply IsS79.set_0 | apply IsS79.set_1) | exact HI0.out), by repeat (first | (with_reducible first | exact HB.out | apply below_alloc | apply pw_below_drewN | apply below_drew1 | refine below_set ?_ (IsS79.ge HI0.out)) | exact HB.out), by repeat (first | (with_reducible first | exact HK.out | apply KeepBut.set_ | apply keep_drewN | apply keep_drew | apply keep_alloc) | exact HK.out)⟩

end Go.Proofs.Ytekaiebfgcjddaa.PGraftReads
