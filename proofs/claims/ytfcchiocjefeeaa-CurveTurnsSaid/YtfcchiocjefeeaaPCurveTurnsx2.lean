-- A text of the session: laid by a program of its own (wip/tools/mkprint.py) over the translation; Lean checks it.
import Derived.Test.YtfcchiocjefeeaaPCurveTurnsx0
import Derived.Test.YtfcchiocjefeeaaPCurveTurnsx1
namespace Go.Proofs.Ytfcchiocjefeeaa.PCurveTurns
open Go.RowKit Go.Proofs.YtfcchiocjefeeaaW.PrintWords Go.Proofs.YtfcchiocjefeeaaW.PrintLast Go.Proofs.YtfcchiocjefeeaaW.PrintMore
attribute [local go_sem] max2_int min2_int max_two min_two max_three min_three max_four min_four   -- for this text's walks alone
set_option linter.unusedVariables false
set_option linter.unusedSimpArgs false

/-! ### aviarylaw03_CurveTurns: function 8 -/
def aviarylaw03_CurveTurns.f (k : Nat) (a0 : Int) : Option (Bool) := (aviarylaw03_works.f k).bind fun t129 => (if t129 = true then ((curve_Cos.f k (Int.tmod a0 1000000)).bind fun t130 => ((curve_Sin.f k (Int.tmod a0 1000000)).bind fun t131 => ((curve_Cos.f k (wrap64 ((Int.tmod a0 1000000) + 8))).bind fun t132 => (if t132 = (wrap64 (-t130)) then ((curve_Sin.f k (wrap64 ((Int.tmod a0 1000000) + 8))).bind fun t133 => (if t133 = (wrap64 (-t131)) then ((curve_Cos.f k (wrap64 (-(Int.tmod a0 1000000)))).bind fun t134 => (if t134 = t130 then ((curve_Sin.f k (wrap64 (-(Int.tmod a0 1000000)))).bind fun t135 => (if t135 = (wrap64 (-t131)) then ((curve_Sin.f k (wrap64 ((Int.tmod a0 1000000) + 4))).bind fun t136 => (if t136 = t130 then (if (wrap64 ((wrap64 ((wrap64 (t130 * t130)) + (wrap64 (t131 * t131)))) - 4294967296)) < 262144 then (some (decide ((wrap64 ((wrap64 ((wrap64 (t130 * t130)) + (wrap64 (t131 * t131)))) - 4294967296)) > (-262144)))) else (some false)) else (some false))) else (some false))) else (some false))) else (some false))) else (some false))))) else (some false))
theorem aviarylaw03_CurveTurns.mono : ∀ a0 k, LeO (aviarylaw03_CurveTurns.f k a0) (aviarylaw03_CurveTurns.f (k + 1) a0) := by
  intro a0 k
  unfold aviarylaw03_CurveTurns.f
  repeat' first
      | (with_reducible exact aviarylaw03_works.mono _)
      | (with_reducible exact curve_Cos.mono _ _)
      | (with_reducible exact curve_Sin.mono _ _)
      | (with_reducible exact LeO.refl _)
      | (with_reducible exact LeO.none _)
      | (with_reducible refine LeO.ite ?_ ?_)
      | (with_reducible refine LeO.bind ?_ (fun _ => ?_))
      | exact aviarylaw03_works.mono _
      | exact curve_Cos.mono _ _
      | exact curve_Sin.mono _ _
      | exact LeO.none _
      | refine LeO.ite ?_ ?_
      | refine LeO.bind ?_ (fun _ => ?_)
set_option maxHeartbeats 8000000 in
set_option maxRecDepth 100000 in
theorem aviarylaw03_CurveTurns.calls (k : Nat) (a0 : Int) (r : Bool) (w : World) (h : aviarylaw03_CurveTurns.f k a0 = some r) :
    Calls Try.prog 8 #[.int .i64 a0] w fun e w' => e = .returned (.bool r) ∧ Below w.heap.size w w' := by
  have HB := Aside0.mk (Below.refl w.heap.size w)
  have H : ((aviarylaw03_works.f k).bind fun t129 => (if t129 = true then ((curve_Cos.f k (Int.tmod a0 1000000)).bind fun t130 => ((curve_Sin.f k (Int.tmod a0 1000000)).bind fun t131 => ((curve_Cos.f k (wrap64 ((Int.tmod a0 1000000) + 8))).bind fun t132 => (if t132 = (wrap64 (-t130)) then ((curve_Sin.f k (wrap64 ((Int.tmod a0 1000000) + 8))).bind fun t133 => (if t133 = (wrap64 (-t131)) then ((curve_Cos.f k (wrap64 (-(Int.tmod a0 1000000)))).bind fun t134 => (if t134 = t130 then ((curve_Sin.f k (wrap64 (-(Int.tmod a0 1000000)))).bind fun t135 => (if t135 = (wrap64 (-t131)) then ((curve_Sin.f k (wrap64 ((Int.tmod a0 1000000) + 4))).bind fun t136 => (if t136 = t130 then (if (wrap64 ((wrap64 ((wrap64 (t130 * t130)) + (wrap64 (t131 * t131)))) - 4294967296)) < 262144 then (some (decide ((wrap64 ((wrap64 ((wrap64 (t130 * t130)) + (wrap64 (t131 * t131)))) - 4294967296)) > (-262144)))) else (some false)) else (some false))) else (some false))) else (some false))) else (some false))) else (some false))))) else (some false))) = some r := h
  clear h
  replace H := Option.bind_eq_some_iff.mp H
  obtain ⟨t129, A20, H⟩ := H
  replace H : (if t129 = true then ((curve_Cos.f k (Int.tmod a0 1000000)).bind fun t130 => ((curve_Sin.f k (Int.tmod a0 1000000)).bind fun t131 => ((curve_Cos.f k (wrap64 ((Int.tmod a0 1000000) + 8))).bind fun t132 => (if t132 = (wrap64 (-t130)) then ((curve_Sin.f k (wrap64 ((Int.tmod a0 1000000) + 8))).bind fun t133 => (if t133 = (wrap64 (-t131)) then ((curve_Cos.f k (wrap64 (-(Int.tmod a0 1000000)))).bind fun t134 => (if t134 = t130 then ((curve_Sin.f k (wrap64 (-(Int.tmod a0 1000000)))).bind fun t135 => (if t135 = (wrap64 (-t131)) then ((curve_Sin.f k (wrap64 ((Int.tmod a0 1000000) + 4))).bind fun t136 => (if t136 = t130 then (if (wrap64 ((wrap64 ((wrap64 (t130 * t130)) + (wrap64 (t131 * t131)))) - 4294967296)) < 262144 then (some (decide ((wrap64 ((wrap64 ((wrap64 (t130 * t130)) + (wrap64 (t131 * t131)))) - 4294967296)) > (-262144)))) else (some false)) else (some false))) else (some false))) else (some false))) else (some false))) else (some false))))) else (some false)) = some r := H
  have A2 := Aside0.mk A20
  clear A20
  by_cases c3 : t129 = true
  · subst c3
    have H1 : ((curve_Cos.f k (Int.tmod a0 1000000)).bind fun t130 => ((curve_Sin.f k (Int.tmod a0 1000000)).bind fun t131 => ((curve_Cos.f k (wrap64 ((Int.tmod a0 1000000) + 8))).bind fun t132 => (if t132 = (wrap64 (-t130)) then ((curve_Sin.f k (wrap64 ((Int.tmod a0 1000000) + 8))).bind fun t133 => (if t133 = (wrap64 (-t131)) then ((curve_Cos.f k (wrap64 (-(Int.tmod a0 1000000)))).bind fun t134 => (if t134 = t130 then ((curve_Sin.f k (wrap64 (-(Int.tmod a0 1000000)))).bind fun t135 => (if t135 = (wrap64 (-t131)) then ((curve_Sin.f k (wrap64 ((Int.tmod a0 1000000) + 4))).bind fun t136 => (if t136 = t130 then (if (wrap64 ((wrap64 ((wrap64 (t130 * t130)) + (wrap64 (t131 * t131)))) - 4294967296)) < 262144 then (some (decide ((wrap64 ((wrap64 ((wrap64 (t130 * t130)) + (wrap64 (t131 * t131)))) - 4294967296)) > (-262144)))) else (some false)) else (some false))) else (some false))) else (some false))) else (some false))) else (some false))))) = some r := by rw [if_pos rfl] at H; exact H
    clear H
    have H := H1
    clear H1
    replace H := Option.bind_eq_some_iff.mp H
    obtain ⟨t130, A40, H⟩ := H
    replace H : ((curve_Sin.f k (Int.tmod a0 1000000)).bind fun t131 => ((curve_Cos.f k (wrap64 ((Int.tmod a0 1000000) + 8))).bind fun t132 => (if t132 = (wrap64 (-t130)) then ((curve_Sin.f k (wrap64 ((Int.tmod a0 1000000) + 8))).bind fun t133 => (if t133 = (wrap64 (-t131)) then ((curve_Cos.f k (wrap64 (-(Int.tmod a0 1000000)))).bind fun t134 => (if t134 = t130 then ((curve_Sin.f k (wrap64 (-(Int.tmod a0 1000000)))).bind fun t135 => (if t135 = (wrap64 (-t131)) then ((curve_Sin.f k (wrap64 ((Int.tmod a0 1000000) + 4))).bind fun t136 => (if t136 = t130 then (if (wrap64 ((wrap64 ((wrap64 (t130 * t130)) + (wrap64 (t131 * t131)))) - 4294967296)) < 262144 then (some (decide ((wrap64 ((wrap64 ((wrap64 (t130 * t130)) + (wrap64 (t131 * t131)))) - 4294967296)) > (-262144)))) else (some false)) else (some false))) else (some false))) else (some false))) else (some false))) else (some false)))) = some r := H
    have A4 := Aside0.mk A40
    clear A40
    replace H := Option.bind_eq_some_iff.mp H
    obtain ⟨t131, A50, H⟩ := H
    replace H : ((curve_Cos.f k (wrap64 ((Int.tmod a0 1000000) + 8))).bind fun t132 => (if t132 = (wrap64 (-t130)) then ((curve_Sin.f k (wrap64 ((Int.tmod a0 1000000) + 8))).bind fun t133 => (if t133 = (wrap64 (-t131)) then ((curve_Cos.f k (wrap64 (-(Int.tmod a0 1000000)))).bind fun t134 => (if t134 = t130 then ((curve_Sin.f k (wrap64 (-(Int.tmod a0 1000000)))).bind fun t135 => (if t135 = (wrap64 (-t131)) then ((curve_Sin.f k (wrap64 ((Int.tmod a0 1000000) + 4))).bind fun t136 => (if t136 = t130 then (if (wrap64 ((wrap64 ((wrap64 (t130 * t130)) + (wrap64 (t131 * t131)))) - 4294967296)) < 262144 then (some (decide ((wrap64 ((wrap64 ((wrap64 (t130 * t130)) + (wrap64 (t131 * t131)))) - 4294967296)) > (-262144)))) else (some false)) else (some false))) else (some false))) else (some false))) else (some false))) else (some false))) = some r := H
    have A5 := Aside0.mk A50
    clear A50
    replace H := Option.bind_eq_some_iff.mp H
    obtain ⟨t132, A60, H⟩ := H
    replace H : (if t132 = (wrap64 (-t130)) then ((curve_Sin.f k (wrap64 ((Int.tmod a0 1000000) + 8))).bind fun t133 => (if t133 = (wrap64 (-t131)) then ((curve_Cos.f k (wrap64 (-(Int.tmod a0 1000000)))).bind fun t134 => (if t134 = t130 then ((curve_Sin.f k (wrap64 (-(Int.tmod a0 1000000)))).bind fun t135 => (if t135 = (wrap64 (-t131)) then ((curve_Sin.f k (wrap64 ((Int.tmod a0 1000000) + 4))).bind fun t136 => (if t136 = t130 then (if (wrap64 ((wrap64 ((wrap64 (t130 * t130)) + (wrap64 (t131 * t131)))) - 4294967296)) < 262144 then (some (decide ((wrap64 ((wrap64 ((wrap64 (t130 * t130)) + (wrap64 (t131 * t131)))) - 4294967296)) > (-262144)))) else (some false)) else (some false))) else (some false))) else (some false))) else (some false))) else (some false)) = some r := H
    have A6 := Aside0.mk A60
    clear A60
    by_cases c7 : t132 = (wrap64 (-t130))
    · rw [if_pos c7] at H
      have c7b0 : (t132 == (wrap64 (-t130))) = true := beq_iff_eq.mpr c7
      have c7b1 : (t132 != (wrap64 (-t130))) = false := bne_eq_false_iff_eq.mpr c7
      clear c7
      replace H := Option.bind_eq_some_iff.mp H
      obtain ⟨t133, A80, H⟩ := H
      replace H : (if t133 = (wrap64 (-t131)) then ((curve_Cos.f k (wrap64 (-(Int.tmod a0 1000000)))).bind fun t134 => (if t134 = t130 then ((curve_Sin.f k (wrap64 (-(Int.tmod a0 1000000)))).bind fun t135 => (if t135 = (wrap64 (-t131)) then ((curve_Sin.f k (wrap64 ((Int.tmod a0 1000000) + 4))).bind fun t136 => (if t136 = t130 then (if (wrap64 ((wrap64 ((wrap64 (t130 * t130)) + (wrap64 (t131 * t131)))) - 4294967296)) < 262144 then (some (decide ((wrap64 ((wrap64 ((wrap64 (t130 * t130)) + (wrap64 (t131 * t131)))) - 4294967296)) > (-262144)))) else (some false)) else (some false))) else (some false))) else (some false))) else (some false)) = some r := H
      have A8 := Aside0.mk A80
      clear A80
      by_cases c9 : t133 = (wrap64 (-t131))
      · rw [if_pos c9] at H
        have c9b0 : (t133 == (wrap64 (-t131))) = true := beq_iff_eq.mpr c9
        have c9b1 : (t133 != (wrap64 (-t131))) = false := bne_eq_false_iff_eq.mpr c9
        clear c9
        replace H := Option.bind_eq_some_iff.mp H
        obtain ⟨t134, A100, H⟩ := H
        replace H : (if t134 = t130 then ((curve_Sin.f k (wrap64 (-(Int.tmod a0 1000000)))).bind fun t135 => (if t135 = (wrap64 (-t131)) then ((curve_Sin.f k (wrap64 ((Int.tmod a0 1000000) + 4))).bind fun t136 => (if t136 = t130 then (if (wrap64 ((wrap64 ((wrap64 (t130 * t130)) + (wrap64 (t131 * t131)))) - 4294967296)) < 262144 then (some (decide ((wrap64 ((wrap64 ((wrap64 (t130 * t130)) + (wrap64 (t131 * t131)))) - 4294967296)) > (-262144)))) else (some false)) else (some false))) else (some false))) else (some false)) = some r := H
        have A10 := Aside0.mk A100
        clear A100
        by_cases c11 : t134 = t130
        · rw [if_pos c11] at H
          have c11b0 : (t134 == t130) = true := beq_iff_eq.mpr c11
          have c11b1 : (t134 != t130) = false := bne_eq_false_iff_eq.mpr c11
          clear c11
          replace H := Option.bind_eq_some_iff.mp H
          obtain ⟨t135, A120, H⟩ := H
          replace H : (if t135 = (wrap64 (-t131)) then ((curve_Sin.f k (wrap64 ((Int.tmod a0 1000000) + 4))).bind fun t136 => (if t136 = t130 then (if (wrap64 ((wrap64 ((wrap64 (t130 * t130)) + (wrap64 (t131 * t131)))) - 4294967296)) < 262144 then (some (decide ((wrap64 ((wrap64 ((wrap64 (t130 * t130)) + (wrap64 (t131 * t131)))) - 4294967296)) > (-262144)))) else (some false)) else (some false))) else (some false)) = some r := H
          have A12 := Aside0.mk A120
          clear A120
          by_cases c13 : t135 = (wrap64 (-t131))
          · rw [if_pos c13] at H
            have c13b0 : (t135 == (wrap64 (-t131))) = true := beq_iff_eq.mpr c13
            have c13b1 : (t135 != (wrap64 (-t131))) = false := bne_eq_false_iff_eq.mpr c13
            clear c13
            replace H := Option.bind_eq_some_iff.mp H
            obtain ⟨t136, A140, H⟩ := H
            replace H : (if t136 = t130 then (if (wrap64 ((wrap64 ((wrap64 (t130 * t130)) + (wrap64 (t131 * t131)))) - 4294967296)) < 262144 then (some (decide ((wrap64 ((wrap64 ((wrap64 (t130 * t130)) + (wrap64 (t131 * t131)))) - 4294967296)) > (-262144)))) else (some false)) else (some false)) = some r := H
            have A14 := Aside0.mk A140
            clear A140
            by_cases c15 : t136 = t130
            · rw [if_pos c15] at H
              have c15b0 : (t136 == t130) = true := beq_iff_eq.mpr c15
              have c15b1 : (t136 != t130) = false := bne_eq_false_iff_eq.mpr c15
              clear c15
              by_cases c16 : (wrap64 ((wrap64 ((wrap64 (t130 * t130)) + (wrap64 (t131 * t131)))) - 4294967296)) < 262144
              · rw [if_pos c16] at H
                have c16b0 : decide ((wrap64 ((wrap64 ((wrap64 (t130 * t130)) + (wrap64 (t131 * t131)))) - 4294967296)) < 262144) = true := decide_eq_true c16
                clear c16
                obtain rfl := Option.some.inj H
                go_enter Try.func8, Try.ntmps8
                go_wp2_with (first | ((with_reducible refine gate_callee (f := 22) rfl ?_); refine goesL_ (some 6) rfl rfl Try.func22 (by kernel_rfl) rfl #[] rfl (by (try simp only [List.map_toArray, List.map_cons, List.map_nil]); first | done | rfl | (simp only [List.length_drop, List.length_take]; rfl)) ?_; (with_reducible refine (aviarylaw03_works.calls k  true _ A2.out).mono ?_); rintro e w17 ⟨rfl, hb⟩; refine ⟨_, rfl, ?_⟩; have n0_ := Aside0.mk (below_step (by repeat (first | (with_reducible first | exact HB.out | apply below_alloc | apply pw_below_drewN | apply below_drew1) | exact HB.out)) hb); clear HB; have HB := n0_; clear n0_; (try clear hb); (try clear hb2); (try clear hk); (try clear hi)) | ((with_reducible refine gate_callee (f := 18) rfl ?_); refine goesL_ (some 11) rfl rfl Try.func18 (by kernel_rfl) rfl #[.int .i64 (Int.tmod a0 1000000)] rfl (by (try simp only [List.map_toArray, List.map_cons, List.map_nil]); first | done | rfl | (simp only [List.length_drop, List.length_take]; rfl)) ?_; (with_reducible refine (curve_Cos.calls k (Int.tmod a0 1000000) t130 _ A4.out).mono ?_); rintro e w' ⟨rfl, ⟨nd, rfl⟩⟩; refine ⟨_, rfl, ?_⟩) | ((with_reducible refine gate_callee (f := 20) rfl ?_); refine goesL_ (some 13) rfl rfl Try.func20 (by kernel_rfl) rfl #[.int .i64 (Int.tmod a0 1000000)] rfl (by (try simp only [List.map_toArray, List.map_cons, List.map_nil]); first | done | rfl | (simp only [List.length_drop, List.length_take]; rfl)) ?_; (with_reducible refine (curve_Sin.calls k (Int.tmod a0 1000000) t131 _ A5.out).mono ?_); rintro e w' ⟨rfl, ⟨nd, rfl⟩⟩; refine ⟨_, rfl, ?_⟩) | ((with_reducible refine gate_callee (f := 18) rfl ?_); refine goesL_ (some 24) rfl rfl Try.func18 (by kernel_rfl) rfl #[.int .i64 (wrap64 ((Int.tmod a0 1000000) + 8))] rfl (by (try simp only [List.map_toArray, List.map_cons, List.map_nil]); first | done | rfl | (simp only [List.length_drop, List.length_take]; rfl)) ?_; (with_reducible refine (curve_Cos.calls k (wrap64 ((Int.tmod a0 1000000) + 8)) t132 _ A6.out).mono ?_); rintro e w' ⟨rfl, ⟨nd, rfl⟩⟩; refine ⟨_, rfl, ?_⟩) | (go_at_call 20; (with_reducible refine (curve_Sin.calls k (wrap64 ((Int.tmod a0 1000000) + 8)) t133 _ A8.out).mono ?_); rintro e w' ⟨rfl, ⟨nd, rfl⟩⟩) | (go_at_call 18; (with_reducible refine (curve_Cos.calls k (wrap64 (-(Int.tmod a0 1000000))) t134 _ A10.out).mono ?_); rintro e w' ⟨rfl, ⟨nd, rfl⟩⟩) | (go_at_call 20; (with_reducible refine (curve_Sin.calls k (wrap64 (-(Int.tmod a0 1000000))) t135 _ A12.out).mono ?_); rintro e w' ⟨rfl, ⟨nd, rfl⟩⟩) | (go_at_call 20; (with_reducible refine (curve_Sin.calls k (wrap64 ((Int.tmod a0 1000000) + 4)) t136 _ A14.out).mono ?_); rintro e w' ⟨rfl, ⟨nd, rfl⟩⟩))
                go_ret
                exact ⟨by first | rfl | (simp [errW_none, errW_some] <;> rfl) | (simp [*, errW_none, errW_some] <;> rfl), by repeat (first | (with_reducible first | exact HB.out | apply below_alloc | apply pw_below_drewN | apply below_drew1) | exact HB.out)⟩
              · rw [if_neg c16] at H
                have c16b0 : decide ((wrap64 ((wrap64 ((wrap64 (t130 * t130)) + (wrap64 (t131 * t131)))) - 4294967296)) < 262144) = false := decide_eq_false c16
                clear c16
                obtain rfl := Option.some.inj H
                go_enter Try.func8, Try.ntmps8
                go_wp2_with (first | ((with_reducible refine gate_callee (f := 22) rfl ?_); refine goesL_ (some 6) rfl rfl Try.func22 (by kernel_rfl) rfl #[] rfl (by (try simp only [List.map_toArray, List.map_cons, List.map_nil]); first | done | rfl | (simp only [List.length_drop, List.length_take]; rfl)) ?_; (with_reducible refine (aviarylaw03_works.calls k  true _ A2.out).mono ?_); rintro e w18 ⟨rfl, hb⟩; refine ⟨_, rfl, ?_⟩; have n0_ := Aside0.mk (below_step (by repeat (first | (with_reducible first | exact HB.out | apply below_alloc | apply pw_below_drewN | apply below_drew1) | exact HB.out)) hb); clear HB; have HB := n0_; clear n0_; (try clear hb); (try clear hb2); (try clear hk); (try clear hi)) | ((with_reducible refine gate_callee (f := 18) rfl ?_); refine goesL_ (some 11) rfl rfl Try.func18 (by kernel_rfl) rfl #[.int .i64 (Int.tmod a0 1000000)] rfl (by (try simp only [List.map_toArray, List.map_cons, List.map_nil]); first | done | rfl | (simp only [List.length_drop, List.length_take]; rfl)) ?_; (with_reducible refine (curve_Cos.calls k (Int.tmod a0 1000000) t130 _ A4.out).mono ?_); rintro e w' ⟨rfl, ⟨nd, rfl⟩⟩; refine ⟨_, rfl, ?_⟩) | ((with_reducible refine gate_callee (f := 20) rfl ?_); refine goesL_ (some 13) rfl rfl Try.func20 (by kernel_rfl) rfl #[.int .i64 (Int.tmod a0 1000000)] rfl (by (try simp only [List.map_toArray, List.map_cons, List.map_nil]); first | done | rfl | (simp only [List.length_drop, List.length_take]; rfl)) ?_; (with_reducible refine (curve_Sin.calls k (Int.tmod a0 1000000) t131 _ A5.out).mono ?_); rintro e w' ⟨rfl, ⟨nd, rfl⟩⟩; refine ⟨_, rfl, ?_⟩) | ((with_reducible refine gate_callee (f := 18) rfl ?_); refine goesL_ (some 24) rfl rfl Try.func18 (by kernel_rfl) rfl #[.int .i64 (wrap64 ((Int.tmod a0 1000000) + 8))] rfl (by (try simp only [List.map_toArray, List.map_cons, List.map_nil]); first | done | rfl | (simp only [List.length_drop, List.length_take]; rfl)) ?_; (with_reducible refine (curve_Cos.calls k (wrap64 ((Int.tmod a0 1000000) + 8)) t132 _ A6.out).mono ?_); rintro e w' ⟨rfl, ⟨nd, rfl⟩⟩; refine ⟨_, rfl, ?_⟩) | (go_at_call 20; (with_reducible refine (curve_Sin.calls k (wrap64 ((Int.tmod a0 1000000) + 8)) t133 _ A8.out).mono ?_); rintro e w' ⟨rfl, ⟨nd, rfl⟩⟩) | (go_at_call 18; (with_reducible refine (curve_Cos.calls k (wrap64 (-(Int.tmod a0 1000000))) t134 _ A10.out).mono ?_); rintro e w' ⟨rfl, ⟨nd, rfl⟩⟩) | (go_at_call 20; (with_reducible refine (curve_Sin.calls k (wrap64 (-(Int.tmod a0 1000000))) t135 _ A12.out).mono ?_); rintro e w' ⟨rfl, ⟨nd, rfl⟩⟩) | (go_at_call 20; (with_reducible refine (curve_Sin.calls k (wrap64 ((Int.tmod a0 1000000) + 4)) t136 _ A14.out).mono ?_); rintro e w' ⟨rfl, ⟨nd, rfl⟩⟩))
                go_ret
                exact ⟨by first | rfl | (simp [errW_none, errW_some] <;> rfl) | (simp [*, errW_none, errW_some] <;> rfl), by repeat (first | (with_reducible first | exact HB.out | apply below_alloc | apply pw_below_drewN | apply below_drew1) | exact HB.out)⟩
            · rw [if_neg c15] at H
              have c15b0 : (t136 == t130) = false := beq_eq_false_iff_ne.mpr c15
              have c15b1 : (t136 != t130) = true := bne_iff_ne.mpr c15
              obtain rfl := Option.some.inj H
              go_enter Try.func8, Try.ntmps8
              go_wp2_with (first | ((with_reducible refine gate_callee (f := 22) rfl ?_); refine goesL_ (some 6) rfl rfl Try.func22 (by kernel_rfl) rfl #[] rfl (by (try simp only [List.map_toArray, List.map_cons, List.map_nil]); first | done | rfl | (simp only [List.length_drop, List.length_take]; rfl)) ?_; (with_reducible refine (aviarylaw03_works.calls k  true _ A2.out).mono ?_); rintro e w19 ⟨rfl, hb⟩; refine ⟨_, rfl, ?_⟩; have n0_ := Aside0.mk (below_step (by repeat (first | (with_reducible first | exact HB.out | apply below_alloc | apply pw_below_drewN | apply below_drew1) | exact HB.out)) hb); clear HB; have HB := n0_; clear n0_; (try clear hb); (try clear hb2); (try clear hk); (try clear hi)) | ((with_reducible refine gate_callee (f := 18) rfl ?_); refine goesL_ (some 11) rfl rfl Try.func18 (by kernel_rfl) rfl #[.int .i64 (Int.tmod a0 1000000)] rfl (by (try simp only [List.map_toArray, List.map_cons, List.map_nil]); first | done | rfl | (simp only [List.length_drop, List.length_take]; rfl)) ?_; (with_reducible refine (curve_Cos.calls k (Int.tmod a0 1000000) t130 _ A4.out).mono ?_); rintro e w' ⟨rfl, ⟨nd, rfl⟩⟩; refine ⟨_, rfl, ?_⟩) | ((with_reducible refine gate_callee (f := 20) rfl ?_); refine goesL_ (some 13) rfl rfl Try.func20 (by kernel_rfl) rfl #[.int .i64 (Int.tmod a0 1000000)] rfl (by (try simp only [List.map_toArray, List.map_cons, List.map_nil]); first | done | rfl | (simp only [List.length_drop, List.length_take]; rfl)) ?_; (with_reducible refine (curve_Sin.calls k (Int.tmod a0 1000000) t131 _ A5.out).mono ?_); rintro e w' ⟨rfl, ⟨nd, rfl⟩⟩; refine ⟨_, rfl, ?_⟩) | ((with_reducible refine gate_callee (f := 18) rfl ?_); refine goesL_ (some 24) rfl rfl Try.func18 (by kernel_rfl) rfl #[.int .i64 (wrap64 ((Int.tmod a0 1000000) + 8))] rfl (by (try simp only [List.map_toArray, List.map_cons, List.map_nil]); first | done | rfl | (simp only [List.length_drop, List.length_take]; rfl)) ?_; (with_reducible refine (curve_Cos.calls k (wrap64 ((Int.tmod a0 1000000) + 8)) t132 _ A6.out).mono ?_); rintro e w' ⟨rfl, ⟨nd, rfl⟩⟩; refine ⟨_, rfl, ?_⟩) | (go_at_call 20; (with_reducible refine (curve_Sin.calls k (wrap64 ((Int.tmod a0 1000000) + 8)) t133 _ A8.out).mono ?_); rintro e w' ⟨rfl, ⟨nd, rfl⟩⟩) | (go_at_call 18; (with_reducible refine (curve_Cos.calls k (wrap64 (-(Int.tmod a0 1000000))) t134 _ A10.out).mono ?_); rintro e w' ⟨rfl, ⟨nd, rfl⟩⟩) | (go_at_call 20; (with_reducible refine (curve_Sin.calls k (wrap64 (-(Int.tmod a0 1000000))) t135 _ A12.out).mono ?_); rintro e w' ⟨rfl, ⟨nd, rfl⟩⟩) | (go_at_call 20; (with_reducible refine (curve_Sin.calls k (wrap64 ((Int.tmod a0 1000000) + 4)) t136 _ A14.out).mono ?_); rintro e w' ⟨rfl, ⟨nd, rfl⟩⟩))
              go_ret
              exact ⟨by first | rfl | (simp [errW_none, errW_some] <;> rfl) | (simp [*, errW_none, errW_some] <;> rfl), by repeat (first | (with_reducible first | exact HB.out | apply below_alloc | apply pw_below_drewN | apply below_drew1) | exact HB.out)⟩
          · rw [if_neg c13] at H
            have c13b0 : (t135 == (wrap64 (-t131))) = false := beq_eq_false_iff_ne.mpr c13
            have c13b1 : (t135 != (wrap64 (-t131))) = true := bne_iff_ne.mpr c13
            obtain rfl := Option.some.inj H
            go_enter Try.func8, Try.ntmps8
            go_wp2_with (first | ((with_reducible refine gate_callee (f := 22) rfl ?_); refine goesL_ (some 6) rfl rfl Try.func22 (by kernel_rfl) rfl #[] rfl (by (try simp only [List.map_toArray, List.map_cons, List.map_nil]); first | done | rfl | (simp only [List.length_drop, List.length_take]; rfl)) ?_; (with_reducible refine (aviarylaw03_works.calls k  true _ A2.out).mono ?_); rintro e w20 ⟨rfl, hb⟩; refine ⟨_, rfl, ?_⟩; have n0_ := Aside0.mk (below_step (by repeat (first | (with_reducible first | exact HB.out | apply below_alloc | apply pw_below_drewN | apply below_drew1) | exact HB.out)) hb); clear HB; have HB := n0_; clear n0_; (try clear hb); (try clear hb2); (try clear hk); (try clear hi)) | ((with_reducible refine gate_callee (f := 18) rfl ?_); refine goesL_ (some 11) rfl rfl Try.func18 (by kernel_rfl) rfl #[.int .i64 (Int.tmod a0 1000000)] rfl (by (try simp only [List.map_toArray, List.map_cons, List.map_nil]); first | done | rfl | (simp only [List.length_drop, List.length_take]; rfl)) ?_; (with_reducible refine (curve_Cos.calls k (Int.tmod a0 1000000) t130 _ A4.out).mono ?_); rintro e w' ⟨rfl, ⟨nd, rfl⟩⟩; refine ⟨_, rfl, ?_⟩) | ((with_reducible refine gate_callee (f := 20) rfl ?_); refine goesL_ (some 13) rfl rfl Try.func20 (by kernel_rfl) rfl #[.int .i64 (Int.tmod a0 1000000)] rfl (by (try simp only [List.map_toArray, List.map_cons, List.map_nil]); first | done | rfl | (simp only [List.length_drop, List.length_take]; rfl)) ?_; (with_reducible refine (curve_Sin.calls k (Int.tmod a0 1000000) t131 _ A5.out).mono ?_); rintro e w' ⟨rfl, ⟨nd, rfl⟩⟩; refine ⟨_, rfl, ?_⟩) | ((with_reducible refine gate_callee (f := 18) rfl ?_); refine goesL_ (some 24) rfl rfl Try.func18 (by kernel_rfl) rfl #[.int .i64 (wrap64 ((Int.tmod a0 1000000) + 8))] rfl (by (try simp only [List.map_toArray, List.map_cons, List.map_nil]); first | done | rfl | (simp only [List.length_drop, List.length_take]; rfl)) ?_; (with_reducible refine (curve_Cos.calls k (wrap64 ((Int.tmod a0 1000000) + 8)) t132 _ A6.out).mono ?_); rintro e w' ⟨rfl, ⟨nd, rfl⟩⟩; refine ⟨_, rfl, ?_⟩) | (go_at_call 20; (with_reducible refine (curve_Sin.calls k (wrap64 ((Int.tmod a0 1000000) + 8)) t133 _ A8.out).mono ?_); rintro e w' ⟨rfl, ⟨nd, rfl⟩⟩) | (go_at_call 18; (with_reducible refine (curve_Cos.calls k (wrap64 (-(Int.tmod a0 1000000))) t134 _ A10.out).mono ?_); rintro e w' ⟨rfl, ⟨nd, rfl⟩⟩) | (go_at_call 20; (with_reducible refine (curve_Sin.calls k (wrap64 (-(Int.tmod a0 1000000))) t135 _ A12.out).mono ?_); rintro e w' ⟨rfl, ⟨nd, rfl⟩⟩))
            go_ret
            exact ⟨by first | rfl | (simp [errW_none, errW_some] <;> rfl) | (simp [*, errW_none, errW_some] <;> rfl), by repeat (first | (with_reducible first | exact HB.out | apply below_alloc | apply pw_below_drewN | apply below_drew1) | exact HB.out)⟩
        · rw [if_neg c11] at H
          have c11b0 : (t134 == t130) = false := beq_eq_false_iff_ne.mpr c11
          have c11b1 : (t134 != t130) = true := bne_iff_ne.mpr c11
          obtain rfl := Option.some.inj H
          go_enter Try.func8, Try.ntmps8
          go_wp2_with (first | ((with_reducible refine gate_callee (f := 22) rfl ?_); refine goesL_ (some 6) rfl rfl Try.func22 (by kernel_rfl) rfl #[] rfl (by (try simp only [List.map_toArray, List.map_cons, List.map_nil]); first | done | rfl | (simp only [List.length_drop, List.length_take]; rfl)) ?_; (with_reducible refine (aviarylaw03_works.calls k  true _ A2.out).mono ?_); rintro e w21 ⟨rfl, hb⟩; refine ⟨_, rfl, ?_⟩; have n0_ := Aside0.mk (below_step (by repeat (first | (with_reducible first | exact HB.out | apply below_alloc | apply pw_below_drewN | apply below_drew1) | exact HB.out)) hb); clear HB; have HB := n0_; clear n0_; (try clear hb); (try clear hb2); (try clear hk); (try clear hi)) | ((with_reducible refine gate_callee (f := 18) rfl ?_); refine goesL_ (some 11) rfl rfl Try.func18 (by kernel_rfl) rfl #[.int .i64 (Int.tmod a0 1000000)] rfl (by (try simp only [List.map_toArray, List.map_cons, List.map_nil]); first | done | rfl | (simp only [List.length_drop, List.length_take]; rfl)) ?_; (with_reducible refine (curve_Cos.calls k (Int.tmod a0 1000000) t130 _ A4.out).mono ?_); rintro e w' ⟨rfl, ⟨nd, rfl⟩⟩; refine ⟨_, rfl, ?_⟩) | ((with_reducible refine gate_callee (f := 20) rfl ?_); refine goesL_ (some 13) rfl rfl Try.func20 (by kernel_rfl) rfl #[.int .i64 (Int.tmod a0 1000000)] rfl (by (try simp only [List.map_toArray, List.map_cons, List.map_nil]); first | done | rfl | (simp only [List.length_drop, List.length_take]; rfl)) ?_; (with_reducible refine (curve_Sin.calls k (Int.tmod a0 1000000) t131 _ A5.out).mono ?_); rintro e w' ⟨rfl, ⟨nd, rfl⟩⟩; refine ⟨_, rfl, ?_⟩) | ((with_reducible refine gate_callee (f := 18) rfl ?_); refine goesL_ (some 24) rfl rfl Try.func18 (by kernel_rfl) rfl #[.int .i64 (wrap64 ((Int.tmod a0 1000000) + 8))] rfl (by (try simp only [List.map_toArray, List.map_cons, List.map_nil]); first | done | rfl | (simp only [List.length_drop, List.length_take]; rfl)) ?_; (with_reducible refine (curve_Cos.calls k (wrap64 ((Int.tmod a0 1000000) + 8)) t132 _ A6.out).mono ?_); rintro e w' ⟨rfl, ⟨nd, rfl⟩⟩; refine ⟨_, rfl, ?_⟩) | (go_at_call 20; (with_reducible refine (curve_Sin.calls k (wrap64 ((Int.tmod a0 1000000) + 8)) t133 _ A8.out).mono ?_); rintro e w' ⟨rfl, ⟨nd, rfl⟩⟩) | (go_at_call 18; (with_reducible refine (curve_Cos.calls k (wrap64 (-(Int.tmod a0 1000000))) t134 _ A10.out).mono ?_); rintro e w' ⟨rfl, ⟨nd, rfl⟩⟩))
          go_ret
          exact ⟨by first | rfl | (simp [errW_none, errW_some] <;> rfl) | (simp [*, errW_none, errW_some] <;> rfl), by repeat (first | (with_reducible first | exact HB.out | apply below_alloc | apply pw_below_drewN | apply below_drew1) | exact HB.out)⟩
      · rw [if_neg c9] at H
        have c9b0 : (t133 == (wrap64 (-t131))) = false := beq_eq_false_iff_ne.mpr c9
        have c9b1 : (t133 != (wrap64 (-t131))) = true := bne_iff_ne.mpr c9
        obtain rfl := Option.some.inj H
        go_enter Try.func8, Try.ntmps8
        go_wp2_with (first | ((with_reducible refine gate_callee (f := 22) rfl ?_); refine goesL_ (some 6) rfl rfl Try.func22 (by kernel_rfl) rfl #[] rfl (by (try simp only [List.map_toArray, List.map_cons, List.map_nil]); first | done | rfl | (simp only [List.length_drop, List.length_take]; rfl)) ?_; (with_reducible refine (aviarylaw03_works.calls k  true _ A2.out).mono ?_); rintro e w22 ⟨rfl, hb⟩; refine ⟨_, rfl, ?_⟩; have n0_ := Aside0.mk (below_step (by repeat (first | (with_reducible first | exact HB.out | apply below_alloc | apply pw_below_drewN | apply below_drew1) | exact HB.out)) hb); clear HB; have HB := n0_; clear n0_; (try clear hb); (try clear hb2); (try clear hk); (try clear hi)) | ((with_reducible refine gate_callee (f := 18) rfl ?_); refine goesL_ (some 11) rfl rfl Try.func18 (by kernel_rfl) rfl #[.int .i64 (Int.tmod a0 1000000)] rfl (by (try simp only [List.map_toArray, List.map_cons, List.map_nil]); first | done | rfl | (simp only [List.length_drop, List.length_take]; rfl)) ?_; (with_reducible refine (curve_Cos.calls k (Int.tmod a0 1000000) t130 _ A4.out).mono ?_); rintro e w' ⟨rfl, ⟨nd, rfl⟩⟩; refine ⟨_, rfl, ?_⟩) | ((with_reducible refine gate_callee (f := 20) rfl ?_); refine goesL_ (some 13) rfl rfl Try.func20 (by kernel_rfl) rfl #[.int .i64 (Int.tmod a0 1000000)] rfl (by (try simp only [List.map_toArray, List.map_cons, List.map_nil]); first | done | rfl | (simp only [List.length_drop, List.length_take]; rfl)) ?_; (with_reducible refine (curve_Sin.calls k (Int.tmod a0 1000000) t131 _ A5.out).mono ?_); rintro e w' ⟨rfl, ⟨nd, rfl⟩⟩; refine ⟨_, rfl, ?_⟩) | ((with_reducible refine gate_callee (f := 18) rfl ?_); refine goesL_ (some 24) rfl rfl Try.func18 (by kernel_rfl) rfl #[.int .i64 (wrap64 ((Int.tmod a0 1000000) + 8))] rfl (by (try simp only [List.map_toArray, List.map_cons, List.map_nil]); first | done | rfl | (simp only [List.length_drop, List.length_take]; rfl)) ?_; (with_reducible refine (curve_Cos.calls k (wrap64 ((Int.tmod a0 1000000) + 8)) t132 _ A6.out).mono ?_); rintro e w' ⟨rfl, ⟨nd, rfl⟩⟩; refine ⟨_, rfl, ?_⟩) | (go_at_call 20; (with_reducible refine (curve_Sin.calls k (wrap64 ((Int.tmod a0 1000000) + 8)) t133 _ A8.out).mono ?_); rintro e w' ⟨rfl, ⟨nd, rfl⟩⟩))
        go_ret
        exact ⟨by first | rfl | (simp [errW_none, errW_some] <;> rfl) | (simp [*, errW_none, errW_some] <;> rfl), by repeat (first | (with_reducible first | exact HB.out | apply below_alloc | apply pw_below_drewN | apply below_drew1) | exact HB.out)⟩
    · rw [if_neg c7] at H
      have c7b0 : (t132 == (wrap64 (-t130))) = false := beq_eq_false_iff_ne.mpr c7
      have c7b1 : (t132 != (wrap64 (-t130))) = true := bne_iff_ne.mpr c7
      obtain rfl := Option.some.inj H
      go_enter Try.func8, Try.ntmps8
      go_wp2_with (first | ((with_reducible refine gate_callee (f := 22) rfl ?_); refine goesL_ (some 6) rfl rfl Try.func22 (by kernel_rfl) rfl #[] rfl (by (try simp only [List.map_toArray, List.map_cons, List.map_nil]); first | done | rfl | (simp only [List.length_drop, List.length_take]; rfl)) ?_; (with_reducible refine (aviarylaw03_works.calls k  true _ A2.out).mono ?_); rintro e w23 ⟨rfl, hb⟩; refine ⟨_, rfl, ?_⟩; have n0_ := Aside0.mk (below_step (by repeat (first | (with_reducible first | exact HB.out | apply below_alloc | apply pw_below_drewN | apply below_drew1) | exact HB.out)) hb); clear HB; have HB := n0_; clear n0_; (try clear hb); (try clear hb2); (try clear hk); (try clear hi)) | ((with_reducible refine gate_callee (f := 18) rfl ?_); refine goesL_ (some 11) rfl rfl Try.func18 (by kernel_rfl) rfl #[.int .i64 (Int.tmod a0 1000000)] rfl (by (try simp only [List.map_toArray, List.map_cons, List.map_nil]); first | done | rfl | (simp only [List.length_drop, List.length_take]; rfl)) ?_; (with_reducible refine (curve_Cos.calls k (Int.tmod a0 1000000) t130 _ A4.out).mono ?_); rintro e w' ⟨rfl, ⟨nd, rfl⟩⟩; refine ⟨_, rfl, ?_⟩) | ((with_reducible refine gate_callee (f := 20) rfl ?_); refine goesL_ (some 13) rfl rfl Try.func20 (by kernel_rfl) rfl #[.int .i64 (Int.tmod a0 1000000)] rfl (by (try simp only [List.map_toArray, List.map_cons, List.map_nil]); first | done | rfl | (simp only [List.length_drop, List.length_take]; rfl)) ?_; (with_reducible refine (curve_Sin.calls k (Int.tmod a0 1000000) t131 _ A5.out).mono ?_); rintro e w' ⟨rfl, ⟨nd, rfl⟩⟩; refine ⟨_, rfl, ?_⟩) | ((with_reducible refine gate_callee (f := 18) rfl ?_); refine goesL_ (some 24) rfl rfl Try.func18 (by kernel_rfl) rfl #[.int .i64 (wrap64 ((Int.tmod a0 1000000) + 8))] rfl (by (try simp only [List.map_toArray, List.map_cons, List.map_nil]); first | done | rfl | (simp only [List.length_drop, List.length_take]; rfl)) ?_; (with_reducible refine (curve_Cos.calls k (wrap64 ((Int.tmod a0 1000000) + 8)) t132 _ A6.out).mono ?_); rintro e w' ⟨rfl, ⟨nd, rfl⟩⟩; refine ⟨_, rfl, ?_⟩))
      go_ret
      exact ⟨by first | rfl | (simp [errW_none, errW_some] <;> rfl) | (simp [*, errW_none, errW_some] <;> rfl), by repeat (first | (with_reducible first | exact HB.out | apply below_alloc | apply pw_below_drewN | apply below_drew1) | exact HB.out)⟩
  · replace c3 := Bool.eq_false_iff.mpr c3
    subst c3
    have H1 : (some false) = some r := by rw [if_neg (show ¬ (false = true) by decide)] at H; exact H
    clear H
    have H := H1
    clear H1
    obtain rfl := Option.some.inj H
    go_enter Try.func8, Try.ntmps8
    go_wp2_with (first | ((with_reducible refine gate_callee (f := 22) rfl ?_); refine goesL_ (some 6) rfl rfl Try.func22 (by kernel_rfl) rfl #[] rfl (by (try simp only [List.map_toArray, List.map_cons, List.map_nil]); first | done | rfl | (simp only [List.length_drop, List.length_take]; rfl)) ?_; (with_reducible refine (aviarylaw03_works.calls k  false _ A2.out).mono ?_); rintro e w24 ⟨rfl, hb⟩; refine ⟨_, rfl, ?_⟩; have n0_ := Aside0.mk (below_step (by repeat (first | (with_reducible first | exact HB.out | apply below_alloc | apply pw_below_drewN | apply below_drew1) | exact HB.out)) hb); clear HB; have HB := n0_; clear n0_; (try clear hb); (try clear hb2); (try clear hk); (try clear hi)))
    go_ret
    exact ⟨by first | rfl | (simp [errW_none, errW_some] <;> rfl) | (simp [*, errW_none, errW_some] <;> rfl), by repeat (first | (with_reducible first | exact HB.out | apply below_alloc | apply pw_below_drewN | apply below_drew1) | exact HB.out)⟩

/-- THE ONE PURE STATEMENT of aviarylaw03_CurveTurns: yours. -/
def aviarylaw03_CurveTurns.Pure : Prop := ∀ (a0 : Int), (Lit.int .i64 a0).wf = true → ∃ k, aviarylaw03_CurveTurns.f k a0 = some true
theorem aviarylaw03_CurveTurns.walk (P : aviarylaw03_CurveTurns.Pure) (a0 : Int) (w : World) (w0 : (Lit.int .i64 a0).wf = true) :
    Calls Try.prog 8 #[.int .i64 a0] w fun e w' => e = .returned (.bool true) ∧ Below w.heap.size w w' := by
  obtain ⟨k, h⟩ := P a0 w0
  refine (aviarylaw03_CurveTurns.calls k a0 true w h).mono ?_
  rintro e w' ⟨rfl, hd⟩
  exact ⟨rfl, hd⟩

end Go.Proofs.Ytfcchiocjefeeaa.PCurveTurns
