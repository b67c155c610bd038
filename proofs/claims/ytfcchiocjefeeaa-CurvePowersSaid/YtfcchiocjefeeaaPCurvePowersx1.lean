-- A text of the session: laid by a program of its own (wip/tools/mkprint.py) over the translation; Lean checks it.
import Derived.Test.YtfcchiocjefeeaaPCurvePowersx0
namespace Go.Proofs.Ytfcchiocjefeeaa.PCurvePowers
open Go.RowKit Go.Proofs.YtfcchiocjefeeaaW.PrintWords Go.Proofs.YtfcchiocjefeeaaW.PrintLast Go.Proofs.YtfcchiocjefeeaaW.PrintMore
attribute [local go_sem] max2_int min2_int max_two min_two max_three min_three max_four min_four   -- for this text's walks alone
set_option linter.unusedVariables false
set_option linter.unusedSimpArgs false

/-! ### sat_Clamp: function 26 -/
def sat_Clamp.f (a0 : Int) : Option (Int) := some (mx (mn a0 2147483647) (-2147483648))
set_option maxHeartbeats 8000000 in
set_option maxRecDepth 100000 in
theorem sat_Clamp.calls (a0 : Int) (r : Int) (w : World) (h : sat_Clamp.f a0 = some r) :
    Calls Try.prog 26 #[.int .i64 a0] w fun e w' => e = .returned (.int .i64 r) ∧ Below w.heap.size w w' := by
  have HB := Aside0.mk (Below.refl w.heap.size w)
  have H : (some (mx (mn a0 2147483647) (-2147483648))) = some r := h
  clear h
  obtain ⟨ji2, hji2⟩ : ∃ j_ : Int, (mn a0 2147483647) = j_ := ⟨_, rfl⟩
  replace H : (some (mx (ji2) (-2147483648))) = some r := by first | (rw [hji2] at H; exact H) | (simp only [hji2] at H ⊢; exact H)
  (try (have hji2h : ji2 ≤ 2147483647 := by (rw [← hji2]; unfold mn; (repeat' split) <;> omega)))
  (try (have hji2g : ji2 ≤ 64 := by omega))
  have hji2_ : (if 2147483647 < a0 then 2147483647 else a0) = ji2 := hji2
  obtain ⟨ji3, hji3⟩ : ∃ j_ : Int, (mx (ji2) (-2147483648)) = j_ := ⟨_, rfl⟩
  replace H : (some ji3) = some r := by first | (rw [hji3] at H; exact H) | (simp only [hji3] at H ⊢; exact H)
  have hji3_ : (if (ji2) < (-2147483648) then (-2147483648) else (ji2)) = ji3 := hji3
  obtain rfl := Option.some.inj H
  go_enter Try.func26, Try.ntmps26
  go_wp2
  go_ret
  exact ⟨by first | rfl | (simp [errW_none, errW_some] <;> rfl) | (simp only [← hji2, ← hji3]; first | rfl | (simp [errW_none, errW_some] <;> rfl)) | (simp [*, errW_none, errW_some] <;> rfl), by repeat (first | (with_reducible first | exact HB.out | apply below_alloc | apply pw_below_drewN | apply below_drew1) | exact HB.out)⟩

/-! ### sat_Shift: function 32 -/
def sat_Shift.f (a0 : Int) (a1 : Int) : Option (Int) := if (mx (mn a1 62) 0) = 0 then (some a0) else (if 0 ≤ ((mx (mn a1 62) 0) - 1) then (if (Go.bits .and .i64 a0 (wrap64 ((wrap64 (2 ^ (mx (mn a1 62) 0).toNat)) - 1))) > (wrap64 (2 ^ ((mx (mn a1 62) 0) - 1).toNat)) then (some (wrap64 ((a0 / 2 ^ (mx (mn a1 62) 0).toNat) + 1))) else (if (Go.bits .and .i64 a0 (wrap64 ((wrap64 (2 ^ (mx (mn a1 62) 0).toNat)) - 1))) = (wrap64 (2 ^ ((mx (mn a1 62) 0) - 1).toNat)) then (if a0 > 0 then (some (wrap64 ((a0 / 2 ^ (mx (mn a1 62) 0).toNat) + 1))) else (some (a0 / 2 ^ (mx (mn a1 62) 0).toNat))) else (some (a0 / 2 ^ (mx (mn a1 62) 0).toNat)))) else (none))
set_option maxHeartbeats 8000000 in
set_option maxRecDepth 100000 in
theorem sat_Shift.calls (a0 : Int) (a1 : Int) (r : Int) (w : World) (h : sat_Shift.f a0 a1 = some r) :
    Calls Try.prog 32 #[.int .i64 a0, .int .i64 a1] w fun e w' => e = .returned (.int .i64 r) ∧ Below w.heap.size w w' := by
  have HB := Aside0.mk (Below.refl w.heap.size w)
  have H : (if (mx (mn a1 62) 0) = 0 then (some a0) else (if 0 ≤ ((mx (mn a1 62) 0) - 1) then (if (Go.bits .and .i64 a0 (wrap64 ((wrap64 (2 ^ (mx (mn a1 62) 0).toNat)) - 1))) > (wrap64 (2 ^ ((mx (mn a1 62) 0) - 1).toNat)) then (some (wrap64 ((a0 / 2 ^ (mx (mn a1 62) 0).toNat) + 1))) else (if (Go.bits .and .i64 a0 (wrap64 ((wrap64 (2 ^ (mx (mn a1 62) 0).toNat)) - 1))) = (wrap64 (2 ^ ((mx (mn a1 62) 0) - 1).toNat)) then (if a0 > 0 then (some (wrap64 ((a0 / 2 ^ (mx (mn a1 62) 0).toNat) + 1))) else (some (a0 / 2 ^ (mx (mn a1 62) 0).toNat))) else (some (a0 / 2 ^ (mx (mn a1 62) 0).toNat)))) else (none))) = some r := h
  clear h
  obtain ⟨ji3, hji3⟩ : ∃ j_ : Int, (mn a1 62) = j_ := ⟨_, rfl⟩
  replace H : (if (mx (ji3) 0) = 0 then (some a0) else (if 0 ≤ ((mx (ji3) 0) - 1) then (if (Go.bits .and .i64 a0 (wrap64 ((wrap64 (2 ^ (mx (ji3) 0).toNat)) - 1))) > (wrap64 (2 ^ ((mx (ji3) 0) - 1).toNat)) then (some (wrap64 ((a0 / 2 ^ (mx (ji3) 0).toNat) + 1))) else (if (Go.bits .and .i64 a0 (wrap64 ((wrap64 (2 ^ (mx (ji3) 0).toNat)) - 1))) = (wrap64 (2 ^ ((mx (ji3) 0) - 1).toNat)) then (if a0 > 0 then (some (wrap64 ((a0 / 2 ^ (mx (ji3) 0).toNat) + 1))) else (some (a0 / 2 ^ (mx (ji3) 0).toNat))) else (some (a0 / 2 ^ (mx (ji3) 0).toNat)))) else (none))) = some r := by first | (rw [hji3] at H; exact H) | (simp only [hji3] at H ⊢; exact H)
  (try (have hji3h : ji3 ≤ 62 := by (rw [← hji3]; unfold mn; (repeat' split) <;> omega)))
  (try (have hji3g : ji3 ≤ 64 := by omega))
  have hji3_ : (if 62 < a1 then 62 else a1) = ji3 := hji3
  obtain ⟨ji4, hji4⟩ : ∃ j_ : Int, (mx (ji3) 0) = j_ := ⟨_, rfl⟩
  replace H : (if (ji4) = 0 then (some a0) else (if 0 ≤ ((ji4) - 1) then (if (Go.bits .and .i64 a0 (wrap64 ((wrap64 (2 ^ (ji4).toNat)) - 1))) > (wrap64 (2 ^ ((ji4) - 1).toNat)) then (some (wrap64 ((a0 / 2 ^ (ji4).toNat) + 1))) else (if (Go.bits .and .i64 a0 (wrap64 ((wrap64 (2 ^ (ji4).toNat)) - 1))) = (wrap64 (2 ^ ((ji4) - 1).toNat)) then (if a0 > 0 then (some (wrap64 ((a0 / 2 ^ (ji4).toNat) + 1))) else (some (a0 / 2 ^ (ji4).toNat))) else (some (a0 / 2 ^ (ji4).toNat)))) else (none))) = some r := by first | (rw [hji4] at H; exact H) | (simp only [hji4] at H ⊢; exact H)
  have hji4_ : (if (ji3) < 0 then 0 else (ji3)) = ji4 := hji4
  by_cases c5 : (ji4) = 0
  · rw [if_pos c5] at H
    have c5b0 : ((ji4) == 0) = true := beq_iff_eq.mpr c5
    have c5b1 : ((ji4) != 0) = false := bne_eq_false_iff_eq.mpr c5
    clear c5
    obtain rfl := Option.some.inj H
    go_enter Try.func32, Try.ntmps32
    go_wp2
    go_ret
    exact ⟨by first | rfl | (simp [errW_none, errW_some] <;> rfl) | (simp only [← hji3, ← hji4]; first | rfl | (simp [errW_none, errW_some] <;> rfl)) | (simp [*, errW_none, errW_some] <;> rfl), by repeat (first | (with_reducible first | exact HB.out | apply below_alloc | apply pw_below_drewN | apply below_drew1) | exact HB.out)⟩
  · rw [if_neg c5] at H
    have c5b0 : ((ji4) == 0) = false := beq_eq_false_iff_ne.mpr c5
    have c5b1 : ((ji4) != 0) = true := bne_iff_ne.mpr c5
    have hjie : ji4 = ji3 := by (unfold mx at hji4; split at hji4 <;> omega)
    have hjip : 0 ≤ ji3 := by (unfold mx at hji4; split at hji4 <;> omega)
    clear hji4 hji4_
    subst hjie
    obtain ⟨hji4, hji4_⟩ : True ∧ True := ⟨trivial, trivial⟩
    obtain ⟨ji6, hji6⟩ : ∃ j_ : Int, ((ji4) - 1) = j_ := ⟨_, rfl⟩
    replace H : (if 0 ≤ (ji6) then (if (Go.bits .and .i64 a0 (wrap64 ((wrap64 (2 ^ (ji4).toNat)) - 1))) > (wrap64 (2 ^ (ji6).toNat)) then (some (wrap64 ((a0 / 2 ^ (ji4).toNat) + 1))) else (if (Go.bits .and .i64 a0 (wrap64 ((wrap64 (2 ^ (ji4).toNat)) - 1))) = (wrap64 (2 ^ (ji6).toNat)) then (if a0 > 0 then (some (wrap64 ((a0 / 2 ^ (ji4).toNat) + 1))) else (some (a0 / 2 ^ (ji4).toNat))) else (some (a0 / 2 ^ (ji4).toNat)))) else (none)) = some r := by first | (rw [hji6] at H; exact H) | (simp only [hji6] at H ⊢; exact H)
    by_cases c7 : 0 ≤ (ji6)
    · rw [if_pos c7] at H
      have c7b0 := eq_true c7
      have c7b1 : decide (0 ≤ (ji6)) = true := decide_eq_true c7
      clear c7
      by_cases c8 : (Go.bits .and .i64 a0 (wrap64 ((wrap64 (2 ^ (ji4).toNat)) - 1))) > (wrap64 (2 ^ (ji6).toNat))
      · rw [if_pos c8] at H
        have c8b0 : decide ((wrap64 (2 ^ (ji6).toNat)) < (Go.bits .and .i64 a0 (wrap64 ((wrap64 (2 ^ (ji4).toNat)) - 1)))) = true := decide_eq_true c8
        clear c8
        obtain rfl := Option.some.inj H
        go_enter Try.func32, Try.ntmps32
        go_wp2
        go_ret
        exact ⟨by first | rfl | (simp [errW_none, errW_some] <;> rfl) | (simp only [← hji3, ← hji4, ← hji6]; first | rfl | (simp [errW_none, errW_some] <;> rfl)) | (simp [*, errW_none, errW_some] <;> rfl), by repeat (first | (with_reducible first | exact HB.out | apply below_alloc | apply pw_below_drewN | apply below_drew1) | exact HB.out)⟩
      · rw [if_neg c8] at H
        have c8b0 : decide ((wrap64 (2 ^ (ji6).toNat)) < (Go.bits .and .i64 a0 (wrap64 ((wrap64 (2 ^ (ji4).toNat)) - 1)))) = false := decide_eq_false c8
        clear c8
        by_cases c9 : (Go.bits .and .i64 a0 (wrap64 ((wrap64 (2 ^ (ji4).toNat)) - 1))) = (wrap64 (2 ^ (ji6).toNat))
        · rw [if_pos c9] at H
          have c9b0 : ((Go.bits .and .i64 a0 (wrap64 ((wrap64 (2 ^ (ji4).toNat)) - 1))) == (wrap64 (2 ^ (ji6).toNat))) = true := beq_iff_eq.mpr c9
          have c9b1 : ((Go.bits .and .i64 a0 (wrap64 ((wrap64 (2 ^ (ji4).toNat)) - 1))) != (wrap64 (2 ^ (ji6).toNat))) = false := bne_eq_false_iff_eq.mpr c9
          clear c9
          by_cases c10 : a0 > 0
          · rw [if_pos c10] at H
            have c10b0 : decide (0 < a0) = true := decide_eq_true c10
            clear c10
            obtain rfl := Option.some.inj H
            go_enter Try.func32, Try.ntmps32
            go_wp2
            go_ret
            exact ⟨by first | rfl | (simp [errW_none, errW_some] <;> rfl) | (simp only [← hji3, ← hji4, ← hji6]; first | rfl | (simp [errW_none, errW_some] <;> rfl)) | (simp [*, errW_none, errW_some] <;> rfl), by repeat (first | (with_reducible first | exact HB.out | apply below_alloc | apply pw_below_drewN | apply below_drew1) | exact HB.out)⟩
          · rw [if_neg c10] at H
            have c10b0 : decide (0 < a0) = false := decide_eq_false c10
            clear c10
            obtain rfl := Option.some.inj H
            go_enter Try.func32, Try.ntmps32
            go_wp2
            go_ret
            exact ⟨by first | rfl | (simp [errW_none, errW_some] <;> rfl) | (simp only [← hji3, ← hji4, ← hji6]; first | rfl | (simp [errW_none, errW_some] <;> rfl)) | (simp [*, errW_none, errW_some] <;> rfl), by repeat (first | (with_reducible first | exact HB.out | apply below_alloc | apply pw_below_drewN | apply below_drew1) | exact HB.out)⟩
        · rw [if_neg c9] at H
          have c9b0 : ((Go.bits .and .i64 a0 (wrap64 ((wrap64 (2 ^ (ji4).toNat)) - 1))) == (wrap64 (2 ^ (ji6).toNat))) = false := beq_eq_false_iff_ne.mpr c9
          have c9b1 : ((Go.bits .and .i64 a0 (wrap64 ((wrap64 (2 ^ (ji4).toNat)) - 1))) != (wrap64 (2 ^ (ji6).toNat))) = true := bne_iff_ne.mpr c9
          obtain rfl := Option.some.inj H
          go_enter Try.func32, Try.ntmps32
          go_wp2
          go_ret
          exact ⟨by first | rfl | (simp [errW_none, errW_some] <;> rfl) | (simp only [← hji3, ← hji4, ← hji6]; first | rfl | (simp [errW_none, errW_some] <;> rfl)) | (simp [*, errW_none, errW_some] <;> rfl), by repeat (first | (with_reducible first | exact HB.out | apply below_alloc | apply pw_below_drewN | apply below_drew1) | exact HB.out)⟩
    · rw [if_neg c7] at H
      exact absurd H (by simp)

/-! ### sat_Mul: function 23 -/
def sat_Mul.f (a0 : Int) (a1 : Int) : Option (Int) := (sat_Clamp.f a0).bind fun t101 => ((sat_Clamp.f a1).bind fun t102 => ((sat_Shift.f (wrap64 (t101 * t102)) 16).bind fun t103 => ((sat_Clamp.f t103).bind fun t104 => (some t104))))
set_option maxHeartbeats 8000000 in
set_option maxRecDepth 100000 in
theorem sat_Mul.calls (a0 : Int) (a1 : Int) (r : Int) (w : World) (h : sat_Mul.f a0 a1 = some r) :
    Calls Try.prog 23 #[.int .i64 a0, .int .i64 a1] w fun e w' => e = .returned (.int .i64 r) ∧ Below w.heap.size w w' := by
  have HB := Aside0.mk (Below.refl w.heap.size w)
  have H : ((sat_Clamp.f a0).bind fun t101 => ((sat_Clamp.f a1).bind fun t102 => ((sat_Shift.f (wrap64 (t101 * t102)) 16).bind fun t103 => ((sat_Clamp.f t103).bind fun t104 => (some t104))))) = some r := h
  clear h
  replace H := Option.bind_eq_some_iff.mp H
  obtain ⟨t101, A30, H⟩ := H
  replace H : ((sat_Clamp.f a1).bind fun t102 => ((sat_Shift.f (wrap64 (t101 * t102)) 16).bind fun t103 => ((sat_Clamp.f t103).bind fun t104 => (some t104)))) = some r := H
  have A3 := Aside0.mk A30
  clear A30
  replace H := Option.bind_eq_some_iff.mp H
  obtain ⟨t102, A40, H⟩ := H
  replace H : ((sat_Shift.f (wrap64 (t101 * t102)) 16).bind fun t103 => ((sat_Clamp.f t103).bind fun t104 => (some t104))) = some r := H
  have A4 := Aside0.mk A40
  clear A40
  replace H := Option.bind_eq_some_iff.mp H
  obtain ⟨t103, A50, H⟩ := H
  replace H : ((sat_Clamp.f t103).bind fun t104 => (some t104)) = some r := H
  have A5 := Aside0.mk A50
  clear A50
  replace H := Option.bind_eq_some_iff.mp H
  obtain ⟨t104, A60, H⟩ := H
  replace H : (some t104) = some r := H
  have A6 := Aside0.mk A60
  clear A60
  obtain rfl := Option.some.inj H
  go_enter Try.func23, Try.ntmps23
  go_wp2_with (first | ((with_reducible refine gate_callee (f := 26) rfl ?_); refine goesL_ (some 6) rfl rfl Try.func26 (by kernel_rfl) rfl #[.int .i64 a0] rfl (by (try simp only [List.map_toArray, List.map_cons, List.map_nil]); first | done | rfl | (simp only [List.length_drop, List.length_take]; rfl)) ?_; (with_reducible refine (sat_Clamp.calls a0 t101 _ A3.out).mono ?_); rintro e w7 ⟨rfl, hb⟩; refine ⟨_, rfl, ?_⟩; have n0_ := Aside0.mk (below_step (by repeat (first | (with_reducible first | exact HB.out | apply below_alloc | apply pw_below_drewN | apply below_drew1) | exact HB.out)) hb); clear HB; have HB := n0_; clear n0_; (try clear hb); (try clear hb2); (try clear hk); (try clear hi)) | ((with_reducible refine gate_callee (f := 26) rfl ?_); refine goesL_ (some 8) rfl rfl Try.func26 (by kernel_rfl) rfl #[.int .i64 a1] rfl (by (try simp only [List.map_toArray, List.map_cons, List.map_nil]); first | done | rfl | (simp only [List.length_drop, List.length_take]; rfl)) ?_; (with_reducible refine (sat_Clamp.calls a1 t102 _ A4.out).mono ?_); rintro e w8 ⟨rfl, hb⟩; refine ⟨_, rfl, ?_⟩; have n0_ := Aside0.mk (below_step (by repeat (first | (with_reducible first | exact HB.out | apply below_alloc | apply pw_below_drewN | apply below_drew1) | exact HB.out)) hb); clear HB; have HB := n0_; clear n0_; (try clear hb); (try clear hb2); (try clear hk); (try clear hi)) | ((with_reducible refine gate_callee (f := 32) rfl ?_); refine goesL_ (some 10) rfl rfl Try.func32 (by kernel_rfl) rfl #[.int .i64 (wrap64 (t101 * t102)), .int .i64 16] rfl (by (try simp only [List.map_toArray, List.map_cons, List.map_nil]); first | done | rfl | (simp only [List.length_drop, List.length_take]; rfl)) ?_; (with_reducible refine (sat_Shift.calls (wrap64 (t101 * t102)) 16 t103 _ A5.out).mono ?_); rintro e w9 ⟨rfl, hb⟩; refine ⟨_, rfl, ?_⟩; have n0_ := Aside0.mk (below_step (by repeat (first | (with_reducible first | exact HB.out | apply below_alloc | apply pw_below_drewN | apply below_drew1) | exact HB.out)) hb); clear HB; have HB := n0_; clear n0_; (try clear hb); (try clear hb2); (try clear hk); (try clear hi)) | ((with_reducible refine gate_callee (f := 26) rfl ?_); refine goesL_ (some 11) rfl rfl Try.func26 (by kernel_rfl) rfl #[.int .i64 t103] rfl (by (try simp only [List.map_toArray, List.map_cons, List.map_nil]); first | done | rfl | (simp only [List.length_drop, List.length_take]; rfl)) ?_; (with_reducible refine (sat_Clamp.calls t103 t104 _ A6.out).mono ?_); rintro e w10 ⟨rfl, hb⟩; refine ⟨_, rfl, ?_⟩; have n0_ := Aside0.mk (below_step (by repeat (first | (with_reducible first | exact HB.out | apply below_alloc | apply pw_below_drewN | apply below_drew1) | exact HB.out)) hb); clear HB; have HB := n0_; clear n0_; (try clear hb); (try clear hb2); (try clear hk); (try clear hi)))
  go_ret
  exact ⟨by first | rfl | (simp [errW_none, errW_some] <;> rfl) | (simp [*, errW_none, errW_some] <;> rfl), by repeat (first | (with_reducible first | exact HB.out | apply below_alloc | apply pw_below_drewN | apply below_drew1) | exact HB.out)⟩

/-! ### curve_powers: function 24 -/
def curve_powers.T : List Int := [65536, 62757, 60097, 57549, 55109, 52773, 50535, 48393, 46341, 44376, 42495, 40693, 38968, 37316, 35734, 34219, 32768]
def curve_powers.f (a0 : Int) : Option (Int) := if 0 ≤ a0 then (if a0 < 17 then (some (rd curve_powers.T a0)) else (none)) else (none)
set_option maxHeartbeats 8000000 in
set_option maxRecDepth 100000 in
theorem curve_powers.calls (a0 : Int) (r : Int) (w : World) (h : curve_powers.f a0 = some r) :
    Calls Try.prog 24 #[.int .i64 a0] w fun e w' => e = .returned (.int .i64 r) ∧ Drawn0 w w' := by
  have h0 : 0 ≤ a0 ∧ a0 < 17 := by
    unfold curve_powers.f at h
    split at h
    · split at h
      · exact ⟨by assumption, by assumption⟩
      · cases h
    · cases h
  obtain ⟨n, rfl⟩ := Int.eq_ofNat_of_zero_le h0.1
  have hn : n < 17 := by omega
  have hr : r = rd curve_powers.T (n : Int) := by
    unfold curve_powers.f at h
    rw [if_pos h0.1, if_pos h0.2] at h
    exact (Option.some.inj h).symm
  subst hr
  clear h h0
  have hx : ∀ W : World, (Instr.index 34 (.agg #[.int .i64 65536, .int .i64 62757, .int .i64 60097, .int .i64 57549, .int .i64 55109, .int .i64 52773, .int .i64 50535, .int .i64 48393, .int .i64 46341, .int .i64 44376, .int .i64 42495, .int .i64 40693, .int .i64 38968, .int .i64 37316, .int .i64 35734, .int .i64 34219, .int .i64 32768]) (.int .i64 (n : Int))).run Try.prog W = .ok (.int .i64 (rd curve_powers.T (n : Int))) W := by
    intro W
    obtain rfl | rfl | rfl | rfl | rfl | rfl | rfl | rfl | rfl | rfl | rfl | rfl | rfl | rfl | rfl | rfl | rfl : n = 0 ∨ n = 1 ∨ n = 2 ∨ n = 3 ∨ n = 4 ∨ n = 5 ∨ n = 6 ∨ n = 7 ∨ n = 8 ∨ n = 9 ∨ n = 10 ∨ n = 11 ∨ n = 12 ∨ n = 13 ∨ n = 14 ∨ n = 15 ∨ n = 16 := by omega
    all_goals kernel_rfl
  generalize rd curve_powers.T (n : Int) = z at *
  go_enter Try.func24, Try.ntmps24
  go_wp2
  go_ret
  exact ⟨rfl, Drawn0.refl _⟩

/-! ### curve_Exp: function 10 -/
def curve_Exp.f (a0 : Int) : Option (Int) := (sat_Mul.f (mn a0 0) 94548).bind fun t105 => (if ((wrap64 (-t105)) / 65536) > 16 then (some 0) else ((curve_powers.f ((Go.bits .and .i64 (wrap64 (-t105)) 65535) / 4096)).bind fun t106 => ((curve_powers.f (wrap64 (((Go.bits .and .i64 (wrap64 (-t105)) 65535) / 4096) + 1))).bind fun t107 => (if 0 ≤ ((wrap64 (-t105)) / 65536) then (some (shr .i64 (wrap64 (t106 - ((wrap64 ((wrap64 (t106 - t107)) * (Go.bits .and .i64 (Go.bits .and .i64 (wrap64 (-t105)) 65535) 4095))) / 4096))) ((wrap64 (-t105)) / 65536))) else (none)))))
set_option maxHeartbeats 8000000 in
set_option maxRecDepth 100000 in
theorem curve_Exp.calls (a0 : Int) (r : Int) (w : World) (h : curve_Exp.f a0 = some r) :
    Calls Try.prog 10 #[.int .i64 a0] w fun e w' => e = .returned (.int .i64 r) ∧ Below w.heap.size w w' := by
  have HB := Aside0.mk (Below.refl w.heap.size w)
  have H : ((sat_Mul.f (mn a0 0) 94548).bind fun t105 => (if ((wrap64 (-t105)) / 65536) > 16 then (some 0) else ((curve_powers.f ((Go.bits .and .i64 (wrap64 (-t105)) 65535) / 4096)).bind fun t106 => ((curve_powers.f (wrap64 (((Go.bits .and .i64 (wrap64 (-t105)) 65535) / 4096) + 1))).bind fun t107 => (if 0 ≤ ((wrap64 (-t105)) / 65536) then (some (shr .i64 (wrap64 (t106 - ((wrap64 ((wrap64 (t106 - t107)) * (Go.bits .and .i64 (Go.bits .and .i64 (wrap64 (-t105)) 65535) 4095))) / 4096))) ((wrap64 (-t105)) / 65536))) else (none)))))) = some r := h
  clear h
  obtain ⟨ji2, hji2⟩ : ∃ j_ : Int, (mn a0 0) = j_ := ⟨_, rfl⟩
  replace H : ((sat_Mul.f (ji2) 94548).bind fun t105 => (if ((wrap64 (-t105)) / 65536) > 16 then (some 0) else ((curve_powers.f ((Go.bits .and .i64 (wrap64 (-t105)) 65535) / 4096)).bind fun t106 => ((curve_powers.f (wrap64 (((Go.bits .and .i64 (wrap64 (-t105)) 65535) / 4096) + 1))).bind fun t107 => (if 0 ≤ ((wrap64 (-t105)) / 65536) then (some (shr .i64 (wrap64 (t106 - ((wrap64 ((wrap64 (t106 - t107)) * (Go.bits .and .i64 (Go.bits .and .i64 (wrap64 (-t105)) 65535) 4095))) / 4096))) ((wrap64 (-t105)) / 65536))) else (none)))))) = some r := by first | (rw [hji2] at H; exact H) | (simp only [hji2] at H ⊢; exact H)
  (try (have hji2h : ji2 ≤ 0 := by (rw [← hji2]; unfold mn; (repeat' split) <;> omega)))
  (try (have hji2g : ji2 ≤ 64 := by omega))
  have hji2_ : (if 0 < a0 then 0 else a0) = ji2 := hji2
  replace H := Option.bind_eq_some_iff.mp H
  obtain ⟨t105, A30, H⟩ := H
  replace H : (if ((wrap64 (-t105)) / 65536) > 16 then (some 0) else ((curve_powers.f ((Go.bits .and .i64 (wrap64 (-t105)) 65535) / 4096)).bind fun t106 => ((curve_powers.f (wrap64 (((Go.bits .and .i64 (wrap64 (-t105)) 65535) / 4096) + 1))).bind fun t107 => (if 0 ≤ ((wrap64 (-t105)) / 65536) then (some (shr .i64 (wrap64 (t106 - ((wrap64 ((wrap64 (t106 - t107)) * (Go.bits .and .i64 (Go.bits .and .i64 (wrap64 (-t105)) 65535) 4095))) / 4096))) ((wrap64 (-t105)) / 65536))) else (none))))) = some r := H
  have A3 := Aside0.mk A30
  clear A30
  by_cases c4 : ((wrap64 (-t105)) / 65536) > 16
  · rw [if_pos c4] at H
    have c4b0 : decide (16 < ((wrap64 (-t105)) / 65536)) = true := decide_eq_true c4
    clear c4
    obtain rfl := Option.some.inj H
    go_enter Try.func10, Try.ntmps10
    go_wp2_with (first | ((with_reducible refine gate_callee (f := 23) rfl ?_); refine goesL_ (some 11) rfl rfl Try.func23 (by kernel_rfl) rfl #[.int .i64 ji2, .int .i64 94548] rfl (by (try simp only [List.map_toArray, List.map_cons, List.map_nil]); first | done | (simp only [hji2]; rfl) | rfl | (simp only [List.length_drop, List.length_take]; rfl)) ?_; (with_reducible refine (sat_Mul.calls ji2 94548 t105 _ A3.out).mono ?_); rintro e w5 ⟨rfl, hb⟩; refine ⟨_, rfl, ?_⟩; have n0_ := Aside0.mk (below_step (by repeat (first | (with_reducible first | exact HB.out | apply below_alloc | apply pw_below_drewN | apply below_drew1) | exact HB.out)) hb); clear HB; have HB := n0_; clear n0_; (try clear hb); (try clear hb2); (try clear hk); (try clear hi)))
    go_ret
    exact ⟨by first | rfl | (simp [errW_none, errW_some] <;> rfl) | (simp only [← hji2]; first | rfl | (simp [errW_none, errW_some] <;> rfl)) | (simp [*, errW_none, errW_some] <;> rfl), by repeat (first | (with_reducible first | exact HB.out | apply below_alloc | apply pw_below_drewN | apply below_drew1) | exact HB.out)⟩
  · rw [if_neg c4] at H
    have c4b0 : decide (16 < ((wrap64 (-t105)) / 65536)) = false := decide_eq_false c4
    clear c4
    replace H := Option.bind_eq_some_iff.mp H
    obtain ⟨t106, A60, H⟩ := H
    replace H : ((curve_powers.f (wrap64 (((Go.bits .and .i64 (wrap64 (-t105)) 65535) / 4096) + 1))).bind fun t107 => (if 0 ≤ ((wrap64 (-t105)) / 65536) then (some (shr .i64 (wrap64 (t106 - ((wrap64 ((wrap64 (t106 - t107)) * (Go.bits .and .i64 (Go.bits .and .i64 (wrap64 (-t105)) 65535) 4095))) / 4096))) ((wrap64 (-t105)) / 65536))) else (none))) = some r := H
    have A6 := Aside0.mk A60
    clear A60
    replace H := Option.bind_eq_some_iff.mp H
    obtain ⟨t107, A70, H⟩ := H
    replace H : (if 0 ≤ ((wrap64 (-t105)) / 65536) then (some (shr .i64 (wrap64 (t106 - ((wrap64 ((wrap64 (t106 - t107)) * (Go.bits .and .i64 (Go.bits .and .i64 (wrap64 (-t105)) 65535) 4095))) / 4096))) ((wrap64 (-t105)) / 65536))) else (none)) = some r := H
    have A7 := Aside0.mk A70
    clear A70
    obtain ⟨ji8, hji8⟩ : ∃ j_ : Int, ((wrap64 (-t105)) / 65536) = j_ := ⟨_, rfl⟩
    replace H : (if 0 ≤ (ji8) then (some (shr .i64 (wrap64 (t106 - ((wrap64 ((wrap64 (t106 - t107)) * (Go.bits .and .i64 (Go.bits .and .i64 (wrap64 (-t105)) 65535) 4095))) / 4096))) (ji8))) else (none)) = some r := by first | (rw [hji8] at H; exact H) | (simp only [hji8] at H ⊢; exact H)
    (try rw [hji8] at c4b0)
    (try rw [hji8] at A3)
    (try rw [hji8] at A6)
    (try rw [hji8] at A7)
    by_cases c9 : 0 ≤ (ji8)
    · rw [if_pos c9] at H
      have c9b0 := eq_true c9
      have c9b1 : decide (0 ≤ (ji8)) = true := decide_eq_true c9
      clear c9
      obtain ⟨ji10, hji10⟩ : ∃ j_ : Int, (shr .i64 (wrap64 (t106 - ((wrap64 ((wrap64 (t106 - t107)) * (Go.bits .and .i64 (Go.bits .and .i64 (wrap64 (-t105)) 65535) 4095))) / 4096))) (ji8)) = j_ := ⟨_, rfl⟩
      replace H : (some ji10) = some r := by first | (rw [hji10] at H; exact H) | (simp only [hji10] at H ⊢; exact H)
      (try rw [hji10] at A3)
      (try rw [hji10] at A6)
      (try rw [hji10] at A7)
      have hji10_ : ((wrap64 (t106 - ((wrap64 ((wrap64 (t106 - t107)) * (Go.bits .and .i64 (Go.bits .and .i64 (wrap64 (-t105)) 65535) 4095))) / 4096))) / 2 ^ min (ji8).toNat 64) = ji10 := hji10
      have hji10z : (ji8) ≤ 64 → ((wrap64 (t106 - ((wrap64 ((wrap64 (t106 - t107)) * (Go.bits .and .i64 (Go.bits .and .i64 (wrap64 (-t105)) 65535) 4095))) / 4096))) / 2 ^ (ji8).toNat) = ji10 := shr_small hji10
      obtain rfl := Option.some.inj H
      go_enter Try.func10, Try.ntmps10
      go_wp2_with (first | ((with_reducible refine gate_callee (f := 23) rfl ?_); refine goesL_ (some 11) rfl rfl Try.func23 (by kernel_rfl) rfl #[.int .i64 ji2, .int .i64 94548] rfl (by (try simp only [List.map_toArray, List.map_cons, List.map_nil]); first | done | (simp only [hji2]; rfl) | rfl | (simp only [List.length_drop, List.length_take]; rfl)) ?_; (with_reducible refine (sat_Mul.calls ji2 94548 t105 _ A3.out).mono ?_); rintro e w11 ⟨rfl, hb⟩; refine ⟨_, rfl, ?_⟩; have n0_ := Aside0.mk (below_step (by repeat (first | (with_reducible first | exact HB.out | apply below_alloc | apply pw_below_drewN | apply below_drew1) | exact HB.out)) hb); clear HB; have HB := n0_; clear n0_; (try clear hb); (try clear hb2); (try clear hk); (try clear hi)) | ((with_reducible refine gate_callee (f := 24) rfl ?_); refine goesL_ (some 24) rfl rfl Try.func24 (by kernel_rfl) rfl #[.int .i64 ((Go.bits .and .i64 (wrap64 (-t105)) 65535) / 4096)] rfl (by (try simp only [List.map_toArray, List.map_cons, List.map_nil]); first | done | rfl | (simp only [List.length_drop, List.length_take]; rfl)) ?_; (with_reducible refine (curve_powers.calls ((Go.bits .and .i64 (wrap64 (-t105)) 65535) / 4096) t106 _ A6.out).mono ?_); rintro e w' ⟨rfl, ⟨nd, rfl⟩⟩; refine ⟨_, rfl, ?_⟩) | ((with_reducible refine gate_callee (f := 24) rfl ?_); refine goesL_ (some 29) rfl rfl Try.func24 (by kernel_rfl) rfl #[.int .i64 (wrap64 (((Go.bits .and .i64 (wrap64 (-t105)) 65535) / 4096) + 1))] rfl (by (try simp only [List.map_toArray, List.map_cons, List.map_nil]); first | done | rfl | (simp only [List.length_drop, List.length_take]; rfl)) ?_; (with_reducible refine (curve_powers.calls (wrap64 (((Go.bits .and .i64 (wrap64 (-t105)) 65535) / 4096) + 1)) t107 _ A7.out).mono ?_); rintro e w' ⟨rfl, ⟨nd, rfl⟩⟩; refine ⟨_, rfl, ?_⟩))
      go_ret
      exact ⟨by first | rfl | (simp [errW_none, errW_some] <;> rfl) | (simp only [← hji2, ← hji8, ← hji10]; first | rfl | (simp [errW_none, errW_some] <;> rfl)) | (simp [*, errW_none, errW_some] <;> rfl), by repeat (first | (with_reducible first | exact HB.out | apply below_alloc | apply pw_below_drewN | apply below_drew1) | exact HB.out)⟩
    · rw [if_neg c9] at H
      exact absurd H (by simp)

/-! ### aviaryref01_Clamp: function 27 -/
def aviaryref01_Clamp.f (a0 : Int) : Option (Int) := some (mn 2147483647 (mx (-2147483648) a0))
set_option maxHeartbeats 8000000 in
set_option maxRecDepth 100000 in
theorem aviaryref01_Clamp.calls (a0 : Int) (r : Int) (w : World) (h : aviaryref01_Clamp.f a0 = some r) :
    Calls Try.prog 27 #[.int .i64 a0] w fun e w' => e = .returned (.int .i64 r) ∧ Below w.heap.size w w' := by
  have HB := Aside0.mk (Below.refl w.heap.size w)
  have H : (some (mn 2147483647 (mx (-2147483648) a0))) = some r := h
  clear h
  obtain ⟨ji2, hji2⟩ : ∃ j_ : Int, (mx (-2147483648) a0) = j_ := ⟨_, rfl⟩
  replace H : (some (mn 2147483647 (ji2))) = some r := by first | (rw [hji2] at H; exact H) | (simp only [hji2] at H ⊢; exact H)
  have hji2_ : (if (-2147483648) < a0 then a0 else (-2147483648)) = ji2 := hji2
  obtain ⟨ji3, hji3⟩ : ∃ j_ : Int, (mn 2147483647 (ji2)) = j_ := ⟨_, rfl⟩
  replace H : (some ji3) = some r := by first | (rw [hji3] at H; exact H) | (simp only [hji3] at H ⊢; exact H)
  have hji3_ : (if (ji2) < 2147483647 then (ji2) else 2147483647) = ji3 := hji3
  obtain rfl := Option.some.inj H
  go_enter Try.func27, Try.ntmps27
  go_wp2
  go_ret
  exact ⟨by first | rfl | (simp [errW_none, errW_some] <;> rfl) | (simp only [← hji2, ← hji3]; first | rfl | (simp [errW_none, errW_some] <;> rfl)) | (simp [*, errW_none, errW_some] <;> rfl), by repeat (first | (with_reducible first | exact HB.out | apply below_alloc | apply pw_below_drewN | apply below_drew1) | exact HB.out)⟩

/-! ### aviaryref01_Shift: function 33 -/
def aviaryref01_Shift.j0 : Nat → Int → Int → Int → Option (Int)
  | 0, _, _, _ => none
  | k + 1, x0, x1, x5 => if 0 ≤ x1 then (if 0 ≤ (wrap64 (x1 - 1)) then (if (Int.tmod (shr .u64 x5 (wrap64 (x1 - 1))) 2) = 1 then (if x0 < 0 then (some (wrap64 (-(wrap64 (IntKind.u64.wrap ((shr .u64 x5 x1) + 1)))))) else (some (wrap64 (IntKind.u64.wrap ((shr .u64 x5 x1) + 1))))) else (if x0 < 0 then (some (wrap64 (-(wrap64 (shr .u64 x5 x1))))) else (some (wrap64 (shr .u64 x5 x1))))) else (none)) else (none)
def aviaryref01_Shift.f (k : Nat) (a0 : Int) (a1 : Int) : Option (Int) := if (mn 62 (mx 0 a1)) = 0 then (some a0) else (if a0 < 0 then (aviaryref01_Shift.j0 k a0 (mn 62 (mx 0 a1)) (IntKind.u64.wrap ((IntKind.u64.wrap (wrap64 (-(wrap64 (a0 + 1))))) + 1))) else (aviaryref01_Shift.j0 k a0 (mn 62 (mx 0 a1)) (IntKind.u64.wrap (a0))))
theorem aviaryref01_Shift.mono_l : ∀ k, (∀ y0 y1 y2, LeO (aviaryref01_Shift.j0 k y0 y1 y2) (aviaryref01_Shift.j0 (k + 1) y0 y1 y2))
  | 0 => fun _ _ _ r h => by simp [aviaryref01_Shift.j0] at h
  | k + 1 => by
    have ih0 := aviaryref01_Shift.mono_l k
    · intro y0 y1 y2
      unfold aviaryref01_Shift.j0
      repeat' first
      | (with_reducible exact ih0 _ _ _)
      | (with_reducible exact LeO.refl _)
      | (with_reducible exact LeO.none _)
      | (with_reducible refine LeO.ite ?_ ?_)
      | (with_reducible refine LeO.bind ?_ (fun _ => ?_))
      | exact ih0 _ _ _
      | exact LeO.none _
      | refine LeO.ite ?_ ?_
      | refine LeO.bind ?_ (fun _ => ?_)
theorem aviaryref01_Shift.mono : ∀ a0 a1 k, LeO (aviaryref01_Shift.f k a0 a1) (aviaryref01_Shift.f (k + 1) a0 a1) := by
  intro a0 a1 k
  have ih0 := aviaryref01_Shift.mono_l k
  unfold aviaryref01_Shift.f
  repeat' first
      | (with_reducible exact ih0 _ _ _)
      | (with_reducible exact LeO.refl _)
      | (with_reducible exact LeO.none _)
      | (with_reducible refine LeO.ite ?_ ?_)
      | (with_reducible refine LeO.bind ?_ (fun _ => ?_))
      | exact ih0 _ _ _
      | exact LeO.none _
      | refine LeO.ite ?_ ?_
      | refine LeO.bind ?_ (fun _ => ?_)
set_option maxHeartbeats 8000000 in
set_option maxRecDepth 100000 in
theorem aviaryref01_Shift.calls (k : Nat) (a0 : Int) (a1 : Int) (r : Int) (w : World) (h : aviaryref01_Shift.f k a0 a1 = some r) :
    Calls Try.prog 33 #[.int .i64 a0, .int .i64 a1] w fun e w' => e = .returned (.int .i64 r) ∧ Below w.heap.size w w' := by
  have HB := Aside0.mk (Below.refl w.heap.size w)
  have H : (if (mn 62 (mx 0 a1)) = 0 then (some a0) else (if a0 < 0 then (aviaryref01_Shift.j0 k a0 (mn 62 (mx 0 a1)) (IntKind.u64.wrap ((IntKind.u64.wrap (wrap64 (-(wrap64 (a0 + 1))))) + 1))) else (aviaryref01_Shift.j0 k a0 (mn 62 (mx 0 a1)) (IntKind.u64.wrap (a0))))) = some r := h
  clear h
  obtain ⟨ji3, hji3⟩ : ∃ j_ : Int, (mx 0 a1) = j_ := ⟨_, rfl⟩
  replace H : (if (mn 62 (ji3)) = 0 then (some a0) else (if a0 < 0 then (aviaryref01_Shift.j0 k a0 (mn 62 (ji3)) (IntKind.u64.wrap ((IntKind.u64.wrap (wrap64 (-(wrap64 (a0 + 1))))) + 1))) else (aviaryref01_Shift.j0 k a0 (mn 62 (ji3)) (IntKind.u64.wrap (a0))))) = some r := by first | (rw [hji3] at H; exact H) | (simp only [hji3] at H ⊢; exact H)
  (try (have hji3l : 0 ≤ ji3 := by (rw [← hji3]; unfold mx; (repeat' split) <;> omega)))
  (try (have hji3m : 0 ≤ ji3 := by omega))
  have hji3_ : (if 0 < a1 then a1 else 0) = ji3 := hji3
  obtain ⟨ji4, hji4⟩ : ∃ j_ : Int, (mn 62 (ji3)) = j_ := ⟨_, rfl⟩
  replace H : (if (ji4) = 0 then (some a0) else (if a0 < 0 then (aviaryref01_Shift.j0 k a0 ji4 (IntKind.u64.wrap ((IntKind.u64.wrap (wrap64 (-(wrap64 (a0 + 1))))) + 1))) else (aviaryref01_Shift.j0 k a0 ji4 (IntKind.u64.wrap (a0))))) = some r := by first | (rw [hji4] at H; exact H) | (simp only [hji4] at H ⊢; exact H)
  have hji4_ : (if (ji3) < 62 then (ji3) else 62) = ji4 := hji4
  by_cases c5 : (ji4) = 0
  · rw [if_pos c5] at H
    have c5b0 : ((ji4) == 0) = true := beq_iff_eq.mpr c5
    have c5b1 : ((ji4) != 0) = false := bne_eq_false_iff_eq.mpr c5
    clear c5
    obtain rfl := Option.some.inj H
    go_enter Try.func33, Try.ntmps33
    go_wp2
    go_ret
    exact ⟨by first | rfl | (simp [errW_none, errW_some] <;> rfl) | (simp only [← hji3, ← hji4]; first | rfl | (simp [errW_none, errW_some] <;> rfl)) | (simp [*, errW_none, errW_some] <;> rfl), by repeat (first | (with_reducible first | exact HB.out | apply below_alloc | apply pw_below_drewN | apply below_drew1) | exact HB.out)⟩
  · rw [if_neg c5] at H
    have c5b0 : ((ji4) == 0) = false := beq_eq_false_iff_ne.mpr c5
    have c5b1 : ((ji4) != 0) = true := bne_iff_ne.mpr c5
    have HC6 := Aside0.mk H
    clear H
    go_enter Try.func33, Try.ntmps33
    go_upto_if 16 with (fail)
    go_cut [5] (fun v5 wc => ∃ (kq : Nat) (x5_5 : Int), v5 = .int .u64 x5_5 ∧ Aside0 (aviaryref01_Shift.j0 kq a0 ji4 x5_5 = some r) ∧ Aside0 (kq ≤ k) ∧ Aside0 (Below w.heap.size w wc))
    case first =>
      have H := HC6.out
      clear HC6
      by_cases c7 : a0 < 0
      · rw [if_pos c7] at H
        have c7b0 : decide (a0 < 0) = true := decide_eq_true c7
        clear c7
        (first | rw [c7b0] | (simp only [i64_w, i32_w]; rw [c7b0]) | skip)
        have H' := Aside0.mk H
        clear H
        go_wp2
        go_meet
        case rel => exact ⟨_, (IntKind.u64.wrap ((IntKind.u64.wrap (wrap64 (-(wrap64 (a0 + 1))))) + 1)), (by first | rfl | (simp; done) | (simp [*]; done)), H', ⟨by first | omega | exact Nat.le_refl _⟩, ⟨by repeat (first | (with_reducible first | exact HB.out | apply below_alloc | apply pw_below_drewN | apply below_drew1) | exact HB.out)⟩⟩
      · rw [if_neg c7] at H
        have c7b0 : decide (a0 < 0) = false := decide_eq_false c7
        clear c7
        (first | rw [c7b0] | (simp only [i64_w, i32_w]; rw [c7b0]) | skip)
        have H' := Aside0.mk H
        clear H
        go_wp2
        go_meet
        case rel => exact ⟨_, (IntKind.u64.wrap (a0)), (by first | rfl | (simp; done) | (simp [*]; done)), H', ⟨by first | omega | exact Nat.le_refl _⟩, ⟨by repeat (first | (with_reducible first | exact HB.out | apply below_alloc | apply pw_below_drewN | apply below_drew1) | exact HB.out)⟩⟩
    case rest =>
      clear HC6
      try clear p2
      try clear c3
      try clear c5
      try clear c5b0
      try clear c5b1
      try clear p6
      try clear c7
      try clear c7b0
      obtain ⟨kq, x5_5, rfl, HA, HJ5, HB⟩ := hcut
      cases kq with
      | zero => exact absurd HA.out (by simp [aviaryref01_Shift.j0])
      | succ kj5 =>
        have H := HA.out
        clear HA
        simp only [aviaryref01_Shift.j0] at H
        by_cases c8 : 0 ≤ ji4
        · rw [if_pos c8] at H
          have c8b0 := eq_true c8
          have c8b1 : decide (0 ≤ ji4) = true := decide_eq_true c8
          clear c8
          obtain ⟨ji9, hji9⟩ : ∃ j_ : Int, (shr .u64 x5_5 ji4) = j_ := ⟨_, rfl⟩
          replace H : (if 0 ≤ (wrap64 (ji4 - 1)) then (if (Int.tmod (shr .u64 x5_5 (wrap64 (ji4 - 1))) 2) = 1 then (if a0 < 0 then (some (wrap64 (-(wrap64 (IntKind.u64.wrap ((ji9) + 1)))))) else (some (wrap64 (IntKind.u64.wrap ((ji9) + 1))))) else (if a0 < 0 then (some (wrap64 (-(wrap64 (ji9))))) else (some (wrap64 (ji9))))) else (none)) = some r := by first | (rw [hji9] at H; exact H) | (simp only [hji9] at H ⊢; exact H)
          have hji9_ : (x5_5 / 2 ^ min ji4.toNat 64) = ji9 := hji9
          have hji9z : ji4 ≤ 64 → (x5_5 / 2 ^ ji4.toNat) = ji9 := shr_small hji9
          have hji9y : (x5_5 / 2 ^ ji4.toNat) = ji9 := hji9z (by (first | omega | (unfold mn at hji4; split at hji4 <;> omega) | (unfold wrap64 at hji4; unfold mn at hji4; split at hji4 <;> omega)))
          obtain ⟨ji10, hji10⟩ : ∃ j_ : Int, (wrap64 (ji4 - 1)) = j_ := ⟨_, rfl⟩
          replace H : (if 0 ≤ (ji10) then (if (Int.tmod (shr .u64 x5_5 (ji10)) 2) = 1 then (if a0 < 0 then (some (wrap64 (-(wrap64 (IntKind.u64.wrap ((ji9) + 1)))))) else (some (wrap64 (IntKind.u64.wrap ((ji9) + 1))))) else (if a0 < 0 then (some (wrap64 (-(wrap64 (ji9))))) else (some (wrap64 (ji9))))) else (none)) = some r := by first | (rw [hji10] at H; exact H) | (simp only [hji10] at H ⊢; exact H)
          have hji10w : (IntKind.i64.wrap (ji4 - 1)) = ji10 := (i64_w _).trans hji10
          by_cases c11 : 0 ≤ (ji10)
          · rw [if_pos c11] at H
            have c11b0 := eq_true c11
            have c11b1 : decide (0 ≤ (ji10)) = true := decide_eq_true c11
            clear c11
            obtain ⟨ji12, hji12⟩ : ∃ j_ : Int, (shr .u64 x5_5 (ji10)) = j_ := ⟨_, rfl⟩
            replace H : (if (Int.tmod (ji12) 2) = 1 then (if a0 < 0 then (some (wrap64 (-(wrap64 (IntKind.u64.wrap ((ji9) + 1)))))) else (some (wrap64 (IntKind.u64.wrap ((ji9) + 1))))) else (if a0 < 0 then (some (wrap64 (-(wrap64 (ji9))))) else (some (wrap64 (ji9))))) = some r := by first | (rw [hji12] at H; exact H) | (simp only [hji12] at H ⊢; exact H)
            have hji12_ : (x5_5 / 2 ^ min (ji10).toNat 64) = ji12 := hji12
            have hji12z : (ji10) ≤ 64 → (x5_5 / 2 ^ (ji10).toNat) = ji12 := shr_small hji12
            have hji12y : (x5_5 / 2 ^ (ji10).toNat) = ji12 := hji12z (by (first | omega | (unfold mn at hji4; split at hji4 <;> omega) | (unfold wrap64 at hji10; unfold mn at hji4; split at hji4 <;> omega)))
            by_cases c13 : (Int.tmod (ji12) 2) = 1
            · rw [if_pos c13] at H
              have c13b0 : ((Int.tmod (ji12) 2) == 1) = true := beq_iff_eq.mpr c13
              have c13b1 : ((Int.tmod (ji12) 2) != 1) = false := bne_eq_false_iff_eq.mpr c13
              clear c13
              by_cases c14 : a0 < 0
              · rw [if_pos c14] at H
                have c14b0 : decide (a0 < 0) = true := decide_eq_true c14
                clear c14
                obtain rfl := Option.some.inj H
                go_wp2
                go_ret
                exact ⟨by first | rfl | (simp [errW_none, errW_some] <;> rfl) | (simp only [← hji3, ← hji4, ← hji9, ← hji10, ← hji12]; first | rfl | (simp [errW_none, errW_some] <;> rfl)) | (simp [*, errW_none, errW_some] <;> rfl), by repeat (first | (with_reducible first | exact HB.out | apply below_alloc | apply pw_below_drewN | apply below_drew1) | exact HB.out)⟩
              · rw [if_neg c14] at H
                have c14b0 : decide (a0 < 0) = false := decide_eq_false c14
                clear c14
                obtain rfl := Option.some.inj H
                go_wp2
                go_ret
                exact ⟨by first | rfl | (simp [errW_none, errW_some] <;> rfl) | (simp only [← hji3, ← hji4, ← hji9, ← hji10, ← hji12]; first | rfl | (simp [errW_none, errW_some] <;> rfl)) | (simp [*, errW_none, errW_some] <;> rfl), by repeat (first | (with_reducible first | exact HB.out | apply below_alloc | apply pw_below_drewN | apply below_drew1) | exact HB.out)⟩
            · rw [if_neg c13] at H
              have c13b0 : ((Int.tmod (ji12) 2) == 1) = false := beq_eq_false_iff_ne.mpr c13
              have c13b1 : ((Int.tmod (ji12) 2) != 1) = true := bne_iff_ne.mpr c13
              by_cases c15 : a0 < 0
              · rw [if_pos c15] at H
                have c15b0 : decide (a0 < 0) = true := decide_eq_true c15
                clear c15
                obtain rfl := Option.some.inj H
                go_wp2
                go_ret
                exact ⟨by first | rfl | (simp [errW_none, errW_some] <;> rfl) | (simp only [← hji3, ← hji4, ← hji9, ← hji10, ← hji12]; first | rfl | (simp [errW_none, errW_some] <;> rfl)) | (simp [*, errW_none, errW_some] <;> rfl), by repeat (first | (with_reducible first | exact HB.out | apply below_alloc | apply pw_below_drewN | apply below_drew1) | exact HB.out)⟩
              · rw [if_neg c15] at H
                have c15b0 : decide (a0 < 0) = false := decide_eq_false c15
                clear c15
                obtain rfl := Option.some.inj H
                go_wp2
                go_ret
                exact ⟨by first | rfl | (simp [errW_none, errW_some] <;> rfl) | (simp only [← hji3, ← hji4, ← hji9, ← hji10, ← hji12]; first | rfl | (simp [errW_none, errW_some] <;> rfl)) | (simp [*, errW_none, errW_some] <;> rfl), by repeat (first | (with_reducible first | exact HB.out | apply below_alloc | apply pw_below_drewN | apply below_drew1) | exact HB.out)⟩
          · rw [if_neg c11] at H
            exact absurd H (by simp)
        · rw [if_neg c8] at H
          exact absurd H (by simp)

/-! ### aviaryref01_Mul: function 25 -/
def aviaryref01_Mul.f (k : Nat) (a0 : Int) (a1 : Int) : Option (Int) := (aviaryref01_Clamp.f a0).bind fun t108 => ((aviaryref01_Clamp.f a1).bind fun t109 => ((aviaryref01_Shift.f k (wrap64 (t108 * t109)) 16).bind fun t110 => ((aviaryref01_Clamp.f t110).bind fun t111 => (some t111))))
theorem aviaryref01_Mul.mono : ∀ a0 a1 k, LeO (aviaryref01_Mul.f k a0 a1) (aviaryref01_Mul.f (k + 1) a0 a1) := by
  intro a0 a1 k
  unfold aviaryref01_Mul.f
  repeat' first
      | (with_reducible exact aviaryref01_Shift.mono _ _ _)
      | (with_reducible exact LeO.refl _)
      | (with_reducible exact LeO.none _)
      | (with_reducible refine LeO.ite ?_ ?_)
      | (with_reducible refine LeO.bind ?_ (fun _ => ?_))
      | exact aviaryref01_Shift.mono _ _ _
      | exact LeO.none _
      | refine LeO.ite ?_ ?_
      | refine LeO.bind ?_ (fun _ => ?_)
set_option maxHeartbeats 8000000 in
set_option maxRecDepth 100000 in
theorem aviaryref01_Mul.calls (k : Nat) (a0 : Int) (a1 : Int) (r : Int) (w : World) (h : aviaryref01_Mul.f k a0 a1 = some r) :
    Calls Try.prog 25 #[.int .i64 a0, .int .i64 a1] w fun e w' => e = .returned (.int .i64 r) ∧ Below w.heap.size w w' := by
  have HB := Aside0.mk (Below.refl w.heap.size w)
  have H : ((aviaryref01_Clamp.f a0).bind fun t108 => ((aviaryref01_Clamp.f a1).bind fun t109 => ((aviaryref01_Shift.f k (wrap64 (t108 * t109)) 16).bind fun t110 => ((aviaryref01_Clamp.f t110).bind fun t111 => (some t111))))) = some r := h
  clear h
  replace H := Option.bind_eq_some_iff.mp H
  obtain ⟨t108, A30, H⟩ := H
  replace H : ((aviaryref01_Clamp.f a1).bind fun t109 => ((aviaryref01_Shift.f k (wrap64 (t108 * t109)) 16).bind fun t110 => ((aviaryref01_Clamp.f t110).bind fun t111 => (some t111)))) = some r := H
  have A3 := Aside0.mk A30
  clear A30
  replace H := Option.bind_eq_some_iff.mp H
  obtain ⟨t109, A40, H⟩ := H
  replace H : ((aviaryref01_Shift.f k (wrap64 (t108 * t109)) 16).bind fun t110 => ((aviaryref01_Clamp.f t110).bind fun t111 => (some t111))) = some r := H
  have A4 := Aside0.mk A40
  clear A40
  replace H := Option.bind_eq_some_iff.mp H
  obtain ⟨t110, A50, H⟩ := H
  replace H : ((aviaryref01_Clamp.f t110).bind fun t111 => (some t111)) = some r := H
  have A5 := Aside0.mk A50
  clear A50
  replace H := Option.bind_eq_some_iff.mp H
  obtain ⟨t111, A60, H⟩ := H
  replace H : (some t111) = some r := H
  have A6 := Aside0.mk A60
  clear A60
  obtain rfl := Option.some.inj H
  go_enter Try.func25, Try.ntmps25
  go_wp2_with (first | ((with_reducible refine gate_callee (f := 27) rfl ?_); refine goesL_ (some 6) rfl rfl Try.func27 (by kernel_rfl) rfl #[.int .i64 a0] rfl (by (try simp only [List.map_toArray, List.map_cons, List.map_nil]); first | done | rfl | (simp only [List.length_drop, List.length_take]; rfl)) ?_; (with_reducible refine (aviaryref01_Clamp.calls a0 t108 _ A3.out).mono ?_); rintro e w7 ⟨rfl, hb⟩; refine ⟨_, rfl, ?_⟩; have n0_ := Aside0.mk (below_step (by repeat (first | (with_reducible first | exact HB.out | apply below_alloc | apply pw_below_drewN | apply below_drew1) | exact HB.out)) hb); clear HB; have HB := n0_; clear n0_; (try clear hb); (try clear hb2); (try clear hk); (try clear hi)) | ((with_reducible refine gate_callee (f := 27) rfl ?_); refine goesL_ (some 8) rfl rfl Try.func27 (by kernel_rfl) rfl #[.int .i64 a1] rfl (by (try simp only [List.map_toArray, List.map_cons, List.map_nil]); first | done | rfl | (simp only [List.length_drop, List.length_take]; rfl)) ?_; (with_reducible refine (aviaryref01_Clamp.calls a1 t109 _ A4.out).mono ?_); rintro e w8 ⟨rfl, hb⟩; refine ⟨_, rfl, ?_⟩; have n0_ := Aside0.mk (below_step (by repeat (first | (with_reducible first | exact HB.out | apply below_alloc | apply pw_below_drewN | apply below_drew1) | exact HB.out)) hb); clear HB; have HB := n0_; clear n0_; (try clear hb); (try clear hb2); (try clear hk); (try clear hi)) | ((with_reducible refine gate_callee (f := 33) rfl ?_); refine goesL_ (some 10) rfl rfl Try.func33 (by kernel_rfl) rfl #[.int .i64 (wrap64 (t108 * t109)), .int .i64 16] rfl (by (try simp only [List.map_toArray, List.map_cons, List.map_nil]); first | done | rfl | (simp only [List.length_drop, List.length_take]; rfl)) ?_; (with_reducible refine (aviaryref01_Shift.calls k (wrap64 (t108 * t109)) 16 t110 _ A5.out).mono ?_); rintro e w9 ⟨rfl, hb⟩; refine ⟨_, rfl, ?_⟩; have n0_ := Aside0.mk (below_step (by repeat (first | (with_reducible first | exact HB.out | apply below_alloc | apply pw_below_drewN | apply below_drew1) | exact HB.out)) hb); clear HB; have HB := n0_; clear n0_; (try clear hb); (try clear hb2); (try clear hk); (try clear hi)) | ((with_reducible refine gate_callee (f := 27) rfl ?_); refine goesL_ (some 11) rfl rfl Try.func27 (by kernel_rfl) rfl #[.int .i64 t110] rfl (by (try simp only [List.map_toArray, List.map_cons, List.map_nil]); first | done | rfl | (simp only [List.length_drop, List.length_take]; rfl)) ?_; (with_reducible refine (aviaryref01_Clamp.calls t110 t111 _ A6.out).mono ?_); rintro e w10 ⟨rfl, hb⟩; refine ⟨_, rfl, ?_⟩; have n0_ := Aside0.mk (below_step (by repeat (first | (with_reducible first | exact HB.out | apply below_alloc | apply pw_below_drewN | apply below_drew1) | exact HB.out)) hb); clear HB; have HB := n0_; clear n0_; (try clear hb); (try clear hb2); (try clear hk); (try clear hi)))
  go_ret
  exact ⟨by first | rfl | (simp [errW_none, errW_some] <;> rfl) | (simp [*, errW_none, errW_some] <;> rfl), by repeat (first | (with_reducible first | exact HB.out | apply below_alloc | apply pw_below_drewN | apply below_drew1) | exact HB.out)⟩

/-! ### aviaryref03_Exp: function 11 -/
def aviaryref03_Exp.f (k : Nat) (a0 : Int) : Option (Int) := (some (([65536, 62757, 60097, 57549, 55109, 52773, 50535, 48393, 46341, 44376, 42495, 40693, 38968, 37316, 35734, 34219, 32768] : List Int) : List Int)).bind fun y112 => ((aviaryref01_Mul.f k (mn 0 a0) 94548).bind fun t115 => (if 0 ≤ (wrap64 (Int.tdiv (Int.tmod (wrap64 (-t115)) 65536) 4096)) then (if (wrap64 (Int.tdiv (Int.tmod (wrap64 (-t115)) 65536) 4096)) < (y112.length : Int) then (if 0 ≤ (wrap64 ((wrap64 (Int.tdiv (Int.tmod (wrap64 (-t115)) 65536) 4096)) + 1)) then (if (wrap64 ((wrap64 (Int.tdiv (Int.tmod (wrap64 (-t115)) 65536) 4096)) + 1)) < (y112.length : Int) then (if (wrap64 (Int.tdiv (wrap64 (-t115)) 65536)) > 16 then (some 0) else (if 0 ≤ (wrap64 (Int.tdiv (wrap64 (-t115)) 65536)) then (some (shr .i64 (wrap64 ((rd y112 (wrap64 (Int.tdiv (Int.tmod (wrap64 (-t115)) 65536) 4096))) - (wrap64 (Int.tdiv (wrap64 ((wrap64 ((rd y112 (wrap64 (Int.tdiv (Int.tmod (wrap64 (-t115)) 65536) 4096))) - (rd y112 (wrap64 ((wrap64 (Int.tdiv (Int.tmod (wrap64 (-t115)) 65536) 4096)) + 1))))) * (Int.tmod (Int.tmod (wrap64 (-t115)) 65536) 4096))) 4096)))) (wrap64 (Int.tdiv (wrap64 (-t115)) 65536)))) else (none))) else (none)) else (none)) else (none)) else (none)))
theorem aviaryref03_Exp.mono : ∀ a0 k, LeO (aviaryref03_Exp.f k a0) (aviaryref03_Exp.f (k + 1) a0) := by
  intro a0 k
  unfold aviaryref03_Exp.f
  repeat' first
      | (with_reducible exact aviaryref01_Mul.mono _ _ _)
      | (with_reducible exact LeO.refl _)
      | (with_reducible exact LeO.none _)
      | (with_reducible refine LeO.ite ?_ ?_)
      | (with_reducible refine LeO.bind ?_ (fun _ => ?_))
      | exact aviaryref01_Mul.mono _ _ _
      | exact LeO.none _
      | refine LeO.ite ?_ ?_
      | refine LeO.bind ?_ (fun _ => ?_)
set_option maxHeartbeats 8000000 in
set_option maxRecDepth 100000 in
theorem aviaryref03_Exp.calls (k : Nat) (a0 : Int) (r : Int) (w : World) (h : aviaryref03_Exp.f k a0 = some r) :
    Calls Try.prog 11 #[.int .i64 a0] w fun e w' => e = .returned (.int .i64 r) ∧ Below w.heap.size w w' := by
  have HB := Aside0.mk (Below.refl w.heap.size w)
  have H : ((some (([65536, 62757, 60097, 57549, 55109, 52773, 50535, 48393, 46341, 44376, 42495, 40693, 38968, 37316, 35734, 34219, 32768] : List Int) : List Int)).bind fun y112 => ((aviaryref01_Mul.f k (mn 0 a0) 94548).bind fun t115 => (if 0 ≤ (wrap64 (Int.tdiv (Int.tmod (wrap64 (-t115)) 65536) 4096)) then (if (wrap64 (Int.tdiv (Int.tmod (wrap64 (-t115)) 65536) 4096)) < (y112.length : Int) then (if 0 ≤ (wrap64 ((wrap64 (Int.tdiv (Int.tmod (wrap64 (-t115)) 65536) 4096)) + 1)) then (if (wrap64 ((wrap64 (Int.tdiv (Int.tmod (wrap64 (-t115)) 65536) 4096)) + 1)) < (y112.length : Int) then (if (wrap64 (Int.tdiv (wrap64 (-t115)) 65536)) > 16 then (some 0) else (if 0 ≤ (wrap64 (Int.tdiv (wrap64 (-t115)) 65536)) then (some (shr .i64 (wrap64 ((rd y112 (wrap64 (Int.tdiv (Int.tmod (wrap64 (-t115)) 65536) 4096))) - (wrap64 (Int.tdiv (wrap64 ((wrap64 ((rd y112 (wrap64 (Int.tdiv (Int.tmod (wrap64 (-t115)) 65536) 4096))) - (rd y112 (wrap64 ((wrap64 (Int.tdiv (Int.tmod (wrap64 (-t115)) 65536) 4096)) + 1))))) * (Int.tmod (Int.tmod (wrap64 (-t115)) 65536) 4096))) 4096)))) (wrap64 (Int.tdiv (wrap64 (-t115)) 65536)))) else (none))) else (none)) else (none)) else (none)) else (none)))) = some r := h
  clear h
  obtain ⟨y112, hy112⟩ : ∃ y_ : List Int, y_ = (([65536, 62757, 60097, 57549, 55109, 52773, 50535, 48393, 46341, 44376, 42495, 40693, 38968, 37316, 35734, 34219, 32768] : List Int)) := ⟨_, rfl⟩
  replace H : ((aviaryref01_Mul.f k (mn 0 a0) 94548).bind fun t115 => (if 0 ≤ (wrap64 (Int.tdiv (Int.tmod (wrap64 (-t115)) 65536) 4096)) then (if (wrap64 (Int.tdiv (Int.tmod (wrap64 (-t115)) 65536) 4096)) < (y112.length : Int) then (if 0 ≤ (wrap64 ((wrap64 (Int.tdiv (Int.tmod (wrap64 (-t115)) 65536) 4096)) + 1)) then (if (wrap64 ((wrap64 (Int.tdiv (Int.tmod (wrap64 (-t115)) 65536) 4096)) + 1)) < (y112.length : Int) then (if (wrap64 (Int.tdiv (wrap64 (-t115)) 65536)) > 16 then (some 0) else (if 0 ≤ (wrap64 (Int.tdiv (wrap64 (-t115)) 65536)) then (some (shr .i64 (wrap64 ((rd y112 (wrap64 (Int.tdiv (Int.tmod (wrap64 (-t115)) 65536) 4096))) - (wrap64 (Int.tdiv (wrap64 ((wrap64 ((rd y112 (wrap64 (Int.tdiv (Int.tmod (wrap64 (-t115)) 65536) 4096))) - (rd y112 (wrap64 ((wrap64 (Int.tdiv (Int.tmod (wrap64 (-t115)) 65536) 4096)) + 1))))) * (Int.tmod (Int.tmod (wrap64 (-t115)) 65536) 4096))) 4096)))) (wrap64 (Int.tdiv (wrap64 (-t115)) 65536)))) else (none))) else (none)) else (none)) else (none)) else (none))) = some r := by first | (rw [hy112]; with_reducible exact H) | (have H2_ := (Option.bind_some _ _).symm.trans H; rw [hy112]; with_reducible exact H2_) | (have H2_ := (Option.bind_some _ _).symm.trans H; with_reducible exact H2_) | with_reducible exact H | (rw [hy112]; exact H) | exact H
  have Ny112 := Aside0.mk hy112
  clear hy112
  obtain ⟨ji2, hji2⟩ : ∃ j_ : Int, (mn 0 a0) = j_ := ⟨_, rfl⟩
  replace H : ((aviaryref01_Mul.f k (ji2) 94548).bind fun t115 => (if 0 ≤ (wrap64 (Int.tdiv (Int.tmod (wrap64 (-t115)) 65536) 4096)) then (if (wrap64 (Int.tdiv (Int.tmod (wrap64 (-t115)) 65536) 4096)) < (y112.length : Int) then (if 0 ≤ (wrap64 ((wrap64 (Int.tdiv (Int.tmod (wrap64 (-t115)) 65536) 4096)) + 1)) then (if (wrap64 ((wrap64 (Int.tdiv (Int.tmod (wrap64 (-t115)) 65536) 4096)) + 1)) < (y112.length : Int) then (if (wrap64 (Int.tdiv (wrap64 (-t115)) 65536)) > 16 then (some 0) else (if 0 ≤ (wrap64 (Int.tdiv (wrap64 (-t115)) 65536)) then (some (shr .i64 (wrap64 ((rd y112 (wrap64 (Int.tdiv (Int.tmod (wrap64 (-t115)) 65536) 4096))) - (wrap64 (Int.tdiv (wrap64 ((wrap64 ((rd y112 (wrap64 (Int.tdiv (Int.tmod (wrap64 (-t115)) 65536) 4096))) - (rd y112 (wrap64 ((wrap64 (Int.tdiv (Int.tmod (wrap64 (-t115)) 65536) 4096)) + 1))))) * (Int.tmod (Int.tmod (wrap64 (-t115)) 65536) 4096))) 4096)))) (wrap64 (Int.tdiv (wrap64 (-t115)) 65536)))) else (none))) else (none)) else (none)) else (none)) else (none))) = some r := by first | (rw [hji2] at H; exact H) | (simp only [hji2] at H ⊢; exact H)
  (try (have hji2h : ji2 ≤ 0 := by (rw [← hji2]; unfold mn; (repeat' split) <;> omega)))
  (try (have hji2g : ji2 ≤ 64 := by omega))
  have hji2_ : (if a0 < 0 then a0 else 0) = ji2 := hji2
  replace H := Option.bind_eq_some_iff.mp H
  obtain ⟨t115, A30, H⟩ := H
  replace H : (if 0 ≤ (wrap64 (Int.tdiv (Int.tmod (wrap64 (-t115)) 65536) 4096)) then (if (wrap64 (Int.tdiv (Int.tmod (wrap64 (-t115)) 65536) 4096)) < (y112.length : Int) then (if 0 ≤ (wrap64 ((wrap64 (Int.tdiv (Int.tmod (wrap64 (-t115)) 65536) 4096)) + 1)) then (if (wrap64 ((wrap64 (Int.tdiv (Int.tmod (wrap64 (-t115)) 65536) 4096)) + 1)) < (y112.length : Int) then (if (wrap64 (Int.tdiv (wrap64 (-t115)) 65536)) > 16 then (some 0) else (if 0 ≤ (wrap64 (Int.tdiv (wrap64 (-t115)) 65536)) then (some (shr .i64 (wrap64 ((rd y112 (wrap64 (Int.tdiv (Int.tmod (wrap64 (-t115)) 65536) 4096))) - (wrap64 (Int.tdiv (wrap64 ((wrap64 ((rd y112 (wrap64 (Int.tdiv (Int.tmod (wrap64 (-t115)) 65536) 4096))) - (rd y112 (wrap64 ((wrap64 (Int.tdiv (Int.tmod (wrap64 (-t115)) 65536) 4096)) + 1))))) * (Int.tmod (Int.tmod (wrap64 (-t115)) 65536) 4096))) 4096)))) (wrap64 (Int.tdiv (wrap64 (-t115)) 65536)))) else (none))) else (none)) else (none)) else (none)) else (none)) = some r := H
  have A3 := Aside0.mk A30
  clear A30
  obtain ⟨ji4, hji4⟩ : ∃ j_ : Int, (wrap64 (Int.tdiv (Int.tmod (wrap64 (-t115)) 65536) 4096)) = j_ := ⟨_, rfl⟩
  replace H : (if 0 ≤ (ji4) then (if (ji4) < (y112.length : Int) then (if 0 ≤ (wrap64 ((ji4) + 1)) then (if (wrap64 ((ji4) + 1)) < (y112.length : Int) then (if (wrap64 (Int.tdiv (wrap64 (-t115)) 65536)) > 16 then (some 0) else (if 0 ≤ (wrap64 (Int.tdiv (wrap64 (-t115)) 65536)) then (some (shr .i64 (wrap64 ((rd y112 (ji4)) - (wrap64 (Int.tdiv (wrap64 ((wrap64 ((rd y112 (ji4)) - (rd y112 (wrap64 ((ji4) + 1))))) * (Int.tmod (Int.tmod (wrap64 (-t115)) 65536) 4096))) 4096)))) (wrap64 (Int.tdiv (wrap64 (-t115)) 65536)))) else (none))) else (none)) else (none)) else (none)) else (none)) = some r := by first | (rw [hji4] at H; exact H) | (simp only [hji4] at H ⊢; exact H)
  (try rw [hji4] at A3)
  have hji4w : (IntKind.i64.wrap (Int.tdiv (Int.tmod (wrap64 (-t115)) 65536) 4096)) = ji4 := (i64_w _).trans hji4
  by_cases c5 : 0 ≤ (ji4)
  · rw [if_pos c5] at H
    have c5b0 : decide (0 ≤ (ji4)) = true := decide_eq_true c5
    clear c5
    by_cases c6 : (ji4) < (y112.length : Int)
    · rw [if_pos c6] at H
      have c6b0 : decide ((ji4) < (y112.length : Int)) = true := decide_eq_true c6
      clear c6
      obtain ⟨ji7, hji7⟩ : ∃ j_ : Int, (wrap64 ((ji4) + 1)) = j_ := ⟨_, rfl⟩
      replace H : (if 0 ≤ (ji7) then (if (ji7) < (y112.length : Int) then (if (wrap64 (Int.tdiv (wrap64 (-t115)) 65536)) > 16 then (some 0) else (if 0 ≤ (wrap64 (Int.tdiv (wrap64 (-t115)) 65536)) then (some (shr .i64 (wrap64 ((rd y112 (ji4)) - (wrap64 (Int.tdiv (wrap64 ((wrap64 ((rd y112 (ji4)) - (rd y112 (ji7)))) * (Int.tmod (Int.tmod (wrap64 (-t115)) 65536) 4096))) 4096)))) (wrap64 (Int.tdiv (wrap64 (-t115)) 65536)))) else (none))) else (none)) else (none)) = some r := by first | (rw [hji7] at H; exact H) | (simp only [hji7] at H ⊢; exact H)
      (try rw [hji7] at A3)
      have hji7w : (IntKind.i64.wrap ((ji4) + 1)) = ji7 := (i64_w _).trans hji7
      by_cases c8 : 0 ≤ (ji7)
      · rw [if_pos c8] at H
        have c8b0 : decide (0 ≤ (ji7)) = true := decide_eq_true c8
        clear c8
        by_cases c9 : (ji7) < (y112.length : Int)
        · rw [if_pos c9] at H
          have c9b0 : decide ((ji7) < (y112.length : Int)) = true := decide_eq_true c9
          clear c9
          by_cases c10 : (wrap64 (Int.tdiv (wrap64 (-t115)) 65536)) > 16
          · rw [if_pos c10] at H
            have c10b0 : decide (16 < (wrap64 (Int.tdiv (wrap64 (-t115)) 65536))) = true := decide_eq_true c10
            clear c10
            obtain rfl := Option.some.inj H
            go_enter Try.func11, Try.ntmps11
            go_wp2_with (first | ((with_reducible refine gate_dst (N := 10) rfl ?_); refine Kd.R_lit (Kd.int .i64) _ 2 ?hg (N := 10) ?hd (xs := ([65536, 62757, 60097, 57549, 55109, 52773, 50535, 48393, 46341, 44376, 42495, 40693, 38968, 37316, 35734, 34219, 32768] : List Int)) (inner := [.int .i64 65536, .int .i64 62757, .int .i64 60097, .int .i64 57549, .int .i64 55109, .int .i64 52773, .int .i64 50535, .int .i64 48393, .int .i64 46341, .int .i64 44376, .int .i64 42495, .int .i64 40693, .int .i64 38968, .int .i64 37316, .int .i64 35734, .int .i64 34219, .int .i64 32768]) (ok := fun _ => True) (okp := fun _ => True) ?hr ?hp (fun _ hk => hk) trivial (Below.refl _ _) (Nat.le_refl _) (by simp) ?_; (case hd => rfl); (case hg => rfl); (case hr => first | (go_simp; done) | (go_simp; rfl)); (case hp => exact (Reps.one (show Kd.M (Kd.int .i64) _ _ _ 65536 [.int .i64 65536] from rfl) (Reps.one (show Kd.M (Kd.int .i64) _ _ _ 62757 [.int .i64 62757] from rfl) (Reps.one (show Kd.M (Kd.int .i64) _ _ _ 60097 [.int .i64 60097] from rfl) (Reps.one (show Kd.M (Kd.int .i64) _ _ _ 57549 [.int .i64 57549] from rfl) (Reps.one (show Kd.M (Kd.int .i64) _ _ _ 55109 [.int .i64 55109] from rfl) (Reps.one (show Kd.M (Kd.int .i64) _ _ _ 52773 [.int .i64 52773] from rfl) (Reps.one (show Kd.M (Kd.int .i64) _ _ _ 50535 [.int .i64 50535] from rfl) (Reps.one (show Kd.M (Kd.int .i64) _ _ _ 48393 [.int .i64 48393] from rfl) (Reps.one (show Kd.M (Kd.int .i64) _ _ _ 46341 [.int .i64 46341] from rfl) (Reps.one (show Kd.M (Kd.int .i64) _ _ _ 44376 [.int .i64 44376] from rfl) (Reps.one (show Kd.M (Kd.int .i64) _ _ _ 42495 [.int .i64 42495] from rfl) (Reps.one (show Kd.M (Kd.int .i64) _ _ _ 40693 [.int .i64 40693] from rfl) (Reps.one (show Kd.M (Kd.int .i64) _ _ _ 38968 [.int .i64 38968] from rfl) (Reps.one (show Kd.M (Kd.int .i64) _ _ _ 37316 [.int .i64 37316] from rfl) (Reps.one (show Kd.M (Kd.int .i64) _ _ _ 35734 [.int .i64 35734] from rfl) (Reps.one (show Kd.M (Kd.int .i64) _ _ _ 34219 [.int .i64 34219] from rfl) (Reps.one (show Kd.M (Kd.int .i64) _ _ _ 32768 [.int .i64 32768] from rfl) (Reps.none _ _))))))))))))))))))); intro v113 w11 ho12 hb hg_ hnew_; clear hg_ hnew_; (first | rw [← Ny112.out] at ho12 | (simp only [Int.reduceToNat] at ho12; rw [← Ny112.out] at ho12)); have n0_ := Aside0.mk (Kd.R_lower ho12 (below_size (by repeat (first | (with_reducible first | exact HB.out | apply below_alloc | apply pw_below_drewN | apply below_drew1) | exact HB.out)))); have n1_ := Aside0.mk (below_step (by repeat (first | (with_reducible first | exact HB.out | apply below_alloc | apply pw_below_drewN | apply below_drew1) | exact HB.out)) hb); clear HB; have HO114 := n0_; have HB := n1_; clear n0_ n1_; clear hb ho12) | (go_at_call 25; (with_reducible refine (aviaryref01_Mul.calls k ji2 94548 t115 _ A3.out).mono ?_); rintro e w13 ⟨rfl, hb⟩; have n0_ := Aside0.mk (Kd.R_below (by (with_reducible repeat (first | apply Kd.R_alloc | apply Kd.R_drewN | apply Kd.R_drew)); exact HO114.out) hb); have n1_ := Aside0.mk (below_step (by repeat (first | (with_reducible first | exact HB.out | apply below_alloc | apply pw_below_drewN | apply below_drew1) | exact HB.out)) hb); clear HO114; clear HB; have HO114 := n0_; have HB := n1_; clear n0_ n1_; (try clear hb); (try clear hb2); (try clear hk); (try clear hi); obtain ⟨Ao14, co14, eo14⟩ := Kd.R_slice HO114.out; subst eo14; have p116 : 0 ≤ ((ji4) : Int) := of_decide_eq_true (by first | (with_reducible assumption) | assumption); have q116 : (ji4) < (y112.length : Int) := of_decide_eq_true (by first | (with_reducible assumption) | assumption); obtain ⟨ad116, e116, hx116_0⟩ := Kd.at_int (Kd.R_reads' HO114.out).2.2 (ji4) p116 q116; cases e116; replace p116 := eq_true p116; replace q116 := eq_true q116; have p117 : 0 ≤ ((ji4) : Int) := of_decide_eq_true (by first | (with_reducible assumption) | assumption); have q117 : (ji4) < (y112.length : Int) := of_decide_eq_true (by first | (with_reducible assumption) | assumption); obtain ⟨ad117, e117, hx117_0⟩ := Kd.at_int (Kd.R_reads' HO114.out).2.2 (ji4) p117 q117; obtain rfl : ad116 = ad117 := (by injection e117); replace p117 := eq_true p117; replace q117 := eq_true q117; have p118 : 0 ≤ ((ji7) : Int) := of_decide_eq_true (by first | (with_reducible assumption) | assumption); have q118 : (ji7) < (y112.length : Int) := of_decide_eq_true (by first | (with_reducible assumption) | assumption); obtain ⟨ad118, e118, hx118_0⟩ := Kd.at_int (Kd.R_reads' HO114.out).2.2 (ji7) p118 q118; obtain rfl : ad116 = ad118 := (by injection e118); replace p118 := eq_true p118; replace q118 := eq_true q118))
            repeat (go_quiet (first | ((with_reducible refine gate_dst (N := 10) rfl ?_); refine Kd.R_lit (Kd.int .i64) _ 2 ?hg (N := 10) ?hd (xs := ([65536, 62757, 60097, 57549, 55109, 52773, 50535, 48393, 46341, 44376, 42495, 40693, 38968, 37316, 35734, 34219, 32768] : List Int)) (inner := [.int .i64 65536, .int .i64 62757, .int .i64 60097, .int .i64 57549, .int .i64 55109, .int .i64 52773, .int .i64 50535, .int .i64 48393, .int .i64 46341, .int .i64 44376, .int .i64 42495, .int .i64 40693, .int .i64 38968, .int .i64 37316, .int .i64 35734, .int .i64 34219, .int .i64 32768]) (ok := fun _ => True) (okp := fun _ => True) ?hr ?hp (fun _ hk => hk) trivial (Below.refl _ _) (Nat.le_refl _) (by simp) ?_; (case hd => rfl); (case hg => rfl); (case hr => first | (go_simp; done) | (go_simp; rfl)); (case hp => exact (Reps.one (show Kd.M (Kd.int .i64) _ _ _ 65536 [.int .i64 65536] from rfl) (Reps.one (show Kd.M (Kd.int .i64) _ _ _ 62757 [.int .i64 62757] from rfl) (Reps.one (show Kd.M (Kd.int .i64) _ _ _ 60097 [.int .i64 60097] from rfl) (Reps.one (show Kd.M (Kd.int .i64) _ _ _ 57549 [.int .i64 57549] from rfl) (Reps.one (show Kd.M (Kd.int .i64) _ _ _ 55109 [.int .i64 55109] from rfl) (Reps.one (show Kd.M (Kd.int .i64) _ _ _ 52773 [.int .i64 52773] from rfl) (Reps.one (show Kd.M (Kd.int .i64) _ _ _ 50535 [.int .i64 50535] from rfl) (Reps.one (show Kd.M (Kd.int .i64) _ _ _ 48393 [.int .i64 48393] from rfl) (Reps.one (show Kd.M (Kd.int .i64) _ _ _ 46341 [.int .i64 46341] from rfl) (Reps.one (show Kd.M (Kd.int .i64) _ _ _ 44376 [.int .i64 44376] from rfl) (Reps.one (show Kd.M (Kd.int .i64) _ _ _ 42495 [.int .i64 42495] from rfl) (Reps.one (show Kd.M (Kd.int .i64) _ _ _ 40693 [.int .i64 40693] from rfl) (Reps.one (show Kd.M (Kd.int .i64) _ _ _ 38968 [.int .i64 38968] from rfl) (Reps.one (show Kd.M (Kd.int .i64) _ _ _ 37316 [.int .i64 37316] from rfl) (Reps.one (show Kd.M (Kd.int .i64) _ _ _ 35734 [.int .i64 35734] from rfl) (Reps.one (show Kd.M (Kd.int .i64) _ _ _ 34219 [.int .i64 34219] from rfl) (Reps.one (show Kd.M (Kd.int .i64) _ _ _ 32768 [.int .i64 32768] from rfl) (Reps.none _ _))))))))))))))))))); intro v113 w11 ho12 hb hg_ hnew_; clear hg_ hnew_; (first | rw [← Ny112.out] at ho12 | (simp only [Int.reduceToNat] at ho12; rw [← Ny112.out] at ho12)); have n0_ := Aside0.mk (Kd.R_lower ho12 (below_size (by repeat (first | (with_reducible first | exact HB.out | apply below_alloc | apply pw_below_drewN | apply below_drew1) | exact HB.out)))); have n1_ := Aside0.mk (below_step (by repeat (first | (with_reducible first | exact HB.out | apply below_alloc | apply pw_below_drewN | apply below_drew1) | exact HB.out)) hb); clear HB; have HO114 := n0_; have HB := n1_; clear n0_ n1_; clear hb ho12) | (go_at_call 25; (with_reducible refine (aviaryref01_Mul.calls k ji2 94548 t115 _ A3.out).mono ?_); rintro e w13 ⟨rfl, hb⟩; have n0_ := Aside0.mk (Kd.R_below (by (with_reducible repeat (first | apply Kd.R_alloc | apply Kd.R_drewN | apply Kd.R_drew)); exact HO114.out) hb); have n1_ := Aside0.mk (below_step (by repeat (first | (with_reducible first | exact HB.out | apply below_alloc | apply pw_below_drewN | apply below_drew1) | exact HB.out)) hb); clear HO114; clear HB; have HO114 := n0_; have HB := n1_; clear n0_ n1_; (try clear hb); (try clear hb2); (try clear hk); (try clear hi); obtain ⟨Ao14, co14, eo14⟩ := Kd.R_slice HO114.out; subst eo14; have p116 : 0 ≤ ((ji4) : Int) := of_decide_eq_true (by first | (with_reducible assumption) | assumption); have q116 : (ji4) < (y112.length : Int) := of_decide_eq_true (by first | (with_reducible assumption) | assumption); obtain ⟨ad116, e116, hx116_0⟩ := Kd.at_int (Kd.R_reads' HO114.out).2.2 (ji4) p116 q116; cases e116; replace p116 := eq_true p116; replace q116 := eq_true q116; have p117 : 0 ≤ ((ji4) : Int) := of_decide_eq_true (by first | (with_reducible assumption) | assumption); have q117 : (ji4) < (y112.length : Int) := of_decide_eq_true (by first | (with_reducible assumption) | assumption); obtain ⟨ad117, e117, hx117_0⟩ := Kd.at_int (Kd.R_reads' HO114.out).2.2 (ji4) p117 q117; obtain rfl : ad116 = ad117 := (by injection e117); replace p117 := eq_true p117; replace q117 := eq_true q117; have p118 : 0 ≤ ((ji7) : Int) := of_decide_eq_true (by first | (with_reducible assumption) | assumption); have q118 : (ji7) < (y112.length : Int) := of_decide_eq_true (by first | (with_reducible assumption) | assumption); obtain ⟨ad118, e118, hx118_0⟩ := Kd.at_int (Kd.R_reads' HO114.out).2.2 (ji7) p118 q118; obtain rfl : ad116 = ad118 := (by injection e118); replace p118 := eq_true p118; replace q118 := eq_true q118)); try go_wp2_with (first | ((with_reducible refine gate_dst (N := 10) rfl ?_); refine Kd.R_lit (Kd.int .i64) _ 2 ?hg (N := 10) ?hd (xs := ([65536, 62757, 60097, 57549, 55109, 52773, 50535, 48393, 46341, 44376, 42495, 40693, 38968, 37316, 35734, 34219, 32768] : List Int)) (inner := [.int .i64 65536, .int .i64 62757, .int .i64 60097, .int .i64 57549, .int .i64 55109, .int .i64 52773, .int .i64 50535, .int .i64 48393, .int .i64 46341, .int .i64 44376, .int .i64 42495, .int .i64 40693, .int .i64 38968, .int .i64 37316, .int .i64 35734, .int .i64 34219, .int .i64 32768]) (ok := fun _ => True) (okp := fun _ => True) ?hr ?hp (fun _ hk => hk) trivial (Below.refl _ _) (Nat.le_refl _) (by simp) ?_; (case hd => rfl); (case hg => rfl); (case hr => first | (go_simp; done) | (go_simp; rfl)); (case hp => exact (Reps.one (show Kd.M (Kd.int .i64) _ _ _ 65536 [.int .i64 65536] from rfl) (Reps.one (show Kd.M (Kd.int .i64) _ _ _ 62757 [.int .i64 62757] from rfl) (Reps.one (show Kd.M (Kd.int .i64) _ _ _ 60097 [.int .i64 60097] from rfl) (Reps.one (show Kd.M (Kd.int .i64) _ _ _ 57549 [.int .i64 57549] from rfl) (Reps.one (show Kd.M (Kd.int .i64) _ _ _ 55109 [.int .i64 55109] from rfl) (Reps.one (show Kd.M (Kd.int .i64) _ _ _ 52773 [.int .i64 52773] from rfl) (Reps.one (show Kd.M (Kd.int .i64) _ _ _ 50535 [.int .i64 50535] from rfl) (Reps.one (show Kd.M (Kd.int .i64) _ _ _ 48393 [.int .i64 48393] from rfl) (Reps.one (show Kd.M (Kd.int .i64) _ _ _ 46341 [.int .i64 46341] from rfl) (Reps.one (show Kd.M (Kd.int .i64) _ _ _ 44376 [.int .i64 44376] from rfl) (Reps.one (show Kd.M (Kd.int .i64) _ _ _ 42495 [.int .i64 42495] from rfl) (Reps.one (show Kd.M (Kd.int .i64) _ _ _ 40693 [.int .i64 40693] from rfl) (Reps.one (show Kd.M (Kd.int .i64) _ _ _ 38968 [.int .i64 38968] from rfl) (Reps.one (show Kd.M (Kd.int .i64) _ _ _ 37316 [.int .i64 37316] from rfl) (Reps.one (show Kd.M (Kd.int .i64) _ _ _ 35734 [.int .i64 35734] from rfl) (Reps.one (show Kd.M (Kd.int .i64) _ _ _ 34219 [.int .i64 34219] from rfl) (Reps.one (show Kd.M (Kd.int .i64) _ _ _ 32768 [.int .i64 32768] from rfl) (Reps.none _ _))))))))))))))))))); intro v113 w11 ho12 hb hg_ hnew_; clear hg_ hnew_; (first | rw [← Ny112.out] at ho12 | (simp only [Int.reduceToNat] at ho12; rw [← Ny112.out] at ho12)); have n0_ := Aside0.mk (Kd.R_lower ho12 (below_size (by repeat (first | (with_reducible first | exact HB.out | apply below_alloc | apply pw_below_drewN | apply below_drew1) | exact HB.out)))); have n1_ := Aside0.mk (below_step (by repeat (first | (with_reducible first | exact HB.out | apply below_alloc | apply pw_below_drewN | apply below_drew1) | exact HB.out)) hb); clear HB; have HO114 := n0_; have HB := n1_; clear n0_ n1_; clear hb ho12) | (go_at_call 25; (with_reducible refine (aviaryref01_Mul.calls k ji2 94548 t115 _ A3.out).mono ?_); rintro e w13 ⟨rfl, hb⟩; have n0_ := Aside0.mk (Kd.R_below (by (with_reducible repeat (first | apply Kd.R_alloc | apply Kd.R_drewN | apply Kd.R_drew)); exact HO114.out) hb); have n1_ := Aside0.mk (below_step (by repeat (first | (with_reducible first | exact HB.out | apply below_alloc | apply pw_below_drewN | apply below_drew1) | exact HB.out)) hb); clear HO114; clear HB; have HO114 := n0_; have HB := n1_; clear n0_ n1_; (try clear hb); (try clear hb2); (try clear hk); (try clear hi); obtain ⟨Ao14, co14, eo14⟩ := Kd.R_slice HO114.out; subst eo14; have p116 : 0 ≤ ((ji4) : Int) := of_decide_eq_true (by first | (with_reducible assumption) | assumption); have q116 : (ji4) < (y112.length : Int) := of_decide_eq_true (by first | (with_reducible assumption) | assumption); obtain ⟨ad116, e116, hx116_0⟩ := Kd.at_int (Kd.R_reads' HO114.out).2.2 (ji4) p116 q116; cases e116; replace p116 := eq_true p116; replace q116 := eq_true q116; have p117 : 0 ≤ ((ji4) : Int) := of_decide_eq_true (by first | (with_reducible assumption) | assumption); have q117 : (ji4) < (y112.length : Int) := of_decide_eq_true (by first | (with_reducible assumption) | assumption); obtain ⟨ad117, e117, hx117_0⟩ := Kd.at_int (Kd.R_reads' HO114.out).2.2 (ji4) p117 q117; obtain rfl : ad116 = ad117 := (by injection e117); replace p117 := eq_true p117; replace q117 := eq_true q117; have p118 : 0 ≤ ((ji7) : Int) := of_decide_eq_true (by first | (with_reducible assumption) | assumption); have q118 : (ji7) < (y112.length : Int) := of_decide_eq_true (by first | (with_reducible assumption) | assumption); obtain ⟨ad118, e118, hx118_0⟩ := Kd.at_int (Kd.R_reads' HO114.out).2.2 (ji7) p118 q118; obtain rfl : ad116 = ad118 := (by injection e118); replace p118 := eq_true p118; replace q118 := eq_true q118)))
            go_ret
            exact ⟨by first | rfl | (simp [errW_none, errW_some] <;> rfl) | (simp only [← hji2, ← hji4, ← hji7]; first | rfl | (simp [errW_none, errW_some] <;> rfl)) | (simp [*, errW_none, errW_some] <;> rfl), by repeat (first | (with_reducible first | exact HB.out | apply below_alloc | apply pw_below_drewN | apply below_drew1) | exact HB.out)⟩
          · rw [if_neg c10] at H
            have c10b0 : decide (16 < (wrap64 (Int.tdiv (wrap64 (-t115)) 65536))) = false := decide_eq_false c10
            clear c10
            obtain ⟨ji15, hji15⟩ : ∃ j_ : Int, (wrap64 (Int.tdiv (wrap64 (-t115)) 65536)) = j_ := ⟨_, rfl⟩
            replace H : (if 0 ≤ (ji15) then (some (shr .i64 (wrap64 ((rd y112 (ji4)) - (wrap64 (Int.tdiv (wrap64 ((wrap64 ((rd y112 (ji4)) - (rd y112 (ji7)))) * (Int.tmod (Int.tmod (wrap64 (-t115)) 65536) 4096))) 4096)))) (ji15))) else (none)) = some r := by first | (rw [hji15] at H; exact H) | (simp only [hji15] at H ⊢; exact H)
            (try rw [hji15] at c10b0)
            (try rw [hji15] at A3)
            have hji15w : (IntKind.i64.wrap (Int.tdiv (wrap64 (-t115)) 65536)) = ji15 := (i64_w _).trans hji15
            by_cases c16 : 0 ≤ (ji15)
            · rw [if_pos c16] at H
              have c16b0 := eq_true c16
              have c16b1 : decide (0 ≤ (ji15)) = true := decide_eq_true c16
              clear c16
              obtain ⟨ji17, hji17⟩ : ∃ j_ : Int, (shr .i64 (wrap64 ((rd y112 (ji4)) - (wrap64 (Int.tdiv (wrap64 ((wrap64 ((rd y112 (ji4)) - (rd y112 (ji7)))) * (Int.tmod (Int.tmod (wrap64 (-t115)) 65536) 4096))) 4096)))) (ji15)) = j_ := ⟨_, rfl⟩
              replace H : (some ji17) = some r := by first | (rw [hji17] at H; exact H) | (simp only [hji17] at H ⊢; exact H)
              (try rw [hji17] at A3)
              have hji17_ : ((wrap64 ((rd y112 (ji4)) - (wrap64 (Int.tdiv (wrap64 ((wrap64 ((rd y112 (ji4)) - (rd y112 (ji7)))) * (Int.tmod (Int.tmod (wrap64 (-t115)) 65536) 4096))) 4096)))) / 2 ^ min (ji15).toNat 64) = ji17 := hji17
              have hji17z : (ji15) ≤ 64 → ((wrap64 ((rd y112 (ji4)) - (wrap64 (Int.tdiv (wrap64 ((wrap64 ((rd y112 (ji4)) - (rd y112 (ji7)))) * (Int.tmod (Int.tmod (wrap64 (-t115)) 65536) 4096))) 4096)))) / 2 ^ (ji15).toNat) = ji17 := shr_small hji17
              obtain rfl := Option.some.inj H
              go_enter Try.func11, Try.ntmps11
              go_wp2_with (first | ((with_reducible refine gate_dst (N := 10) rfl ?_); refine Kd.R_lit (Kd.int .i64) _ 2 ?hg (N := 10) ?hd (xs := ([65536, 62757, 60097, 57549, 55109, 52773, 50535, 48393, 46341, 44376, 42495, 40693, 38968, 37316, 35734, 34219, 32768] : List Int)) (inner := [.int .i64 65536, .int .i64 62757, .int .i64 60097, .int .i64 57549, .int .i64 55109, .int .i64 52773, .int .i64 50535, .int .i64 48393, .int .i64 46341, .int .i64 44376, .int .i64 42495, .int .i64 40693, .int .i64 38968, .int .i64 37316, .int .i64 35734, .int .i64 34219, .int .i64 32768]) (ok := fun _ => True) (okp := fun _ => True) ?hr ?hp (fun _ hk => hk) trivial (Below.refl _ _) (Nat.le_refl _) (by simp) ?_; (case hd => rfl); (case hg => rfl); (case hr => first | (go_simp; done) | (go_simp; rfl)); (case hp => exact (Reps.one (show Kd.M (Kd.int .i64) _ _ _ 65536 [.int .i64 65536] from rfl) (Reps.one (show Kd.M (Kd.int .i64) _ _ _ 62757 [.int .i64 62757] from rfl) (Reps.one (show Kd.M (Kd.int .i64) _ _ _ 60097 [.int .i64 60097] from rfl) (Reps.one (show Kd.M (Kd.int .i64) _ _ _ 57549 [.int .i64 57549] from rfl) (Reps.one (show Kd.M (Kd.int .i64) _ _ _ 55109 [.int .i64 55109] from rfl) (Reps.one (show Kd.M (Kd.int .i64) _ _ _ 52773 [.int .i64 52773] from rfl) (Reps.one (show Kd.M (Kd.int .i64) _ _ _ 50535 [.int .i64 50535] from rfl) (Reps.one (show Kd.M (Kd.int .i64) _ _ _ 48393 [.int .i64 48393] from rfl) (Reps.one (show Kd.M (Kd.int .i64) _ _ _ 46341 [.int .i64 46341] from rfl) (Reps.one (show Kd.M (Kd.int .i64) _ _ _ 44376 [.int .i64 44376] from rfl) (Reps.one (show Kd.M (Kd.int .i64) _ _ _ 42495 [.int .i64 42495] from rfl) (Reps.one (show Kd.M (Kd.int .i64) _ _ _ 40693 [.int .i64 40693] from rfl) (Reps.one (show Kd.M (Kd.int .i64) _ _ _ 38968 [.int .i64 38968] from rfl) (Reps.one (show Kd.M (Kd.int .i64) _ _ _ 37316 [.int .i64 37316] from rfl) (Reps.one (show Kd.M (Kd.int .i64) _ _ _ 35734 [.int .i64 35734] from rfl) (Reps.one (show Kd.M (Kd.int .i64) _ _ _ 34219 [.int .i64 34219] from rfl) (Reps.one (show Kd.M (Kd.int .i64) _ _ _ 32768 [.int .i64 32768] from rfl) (Reps.none _ _))))))))))))))))))); intro v113 w18 ho19 hb hg_ hnew_; clear hg_ hnew_; (first | rw [← Ny112.out] at ho19 | (simp only [Int.reduceToNat] at ho19; rw [← Ny112.out] at ho19)); have n0_ := Aside0.mk (Kd.R_lower ho19 (below_size (by repeat (first | (with_reducible first | exact HB.out | apply below_alloc | apply pw_below_drewN | apply below_drew1) | exact HB.out)))); have n1_ := Aside0.mk (below_step (by repeat (first | (with_reducible first | exact HB.out | apply below_alloc | apply pw_below_drewN | apply below_drew1) | exact HB.out)) hb); clear HB; have HO114 := n0_; have HB := n1_; clear n0_ n1_; clear hb ho19) | (go_at_call 25; (with_reducible refine (aviaryref01_Mul.calls k ji2 94548 t115 _ A3.out).mono ?_); rintro e w20 ⟨rfl, hb⟩; have n0_ := Aside0.mk (Kd.R_below (by (with_reducible repeat (first | apply Kd.R_alloc | apply Kd.R_drewN | apply Kd.R_drew)); exact HO114.out) hb); have n1_ := Aside0.mk (below_step (by repeat (first | (with_reducible first | exact HB.out | apply below_alloc | apply pw_below_drewN | apply below_drew1) | exact HB.out)) hb); clear HO114; clear HB; have HO114 := n0_; have HB := n1_; clear n0_ n1_; (try clear hb); (try clear hb2); (try clear hk); (try clear hi); obtain ⟨Ao21, co21, eo21⟩ := Kd.R_slice HO114.out; subst eo21; have p116 : 0 ≤ ((ji4) : Int) := of_decide_eq_true (by first | (with_reducible assumption) | assumption); have q116 : (ji4) < (y112.length : Int) := of_decide_eq_true (by first | (with_reducible assumption) | assumption); obtain ⟨ad116, e116, hx116_0⟩ := Kd.at_int (Kd.R_reads' HO114.out).2.2 (ji4) p116 q116; cases e116; replace p116 := eq_true p116; replace q116 := eq_true q116; have p117 : 0 ≤ ((ji4) : Int) := of_decide_eq_true (by first | (with_reducible assumption) | assumption); have q117 : (ji4) < (y112.length : Int) := of_decide_eq_true (by first | (with_reducible assumption) | assumption); obtain ⟨ad117, e117, hx117_0⟩ := Kd.at_int (Kd.R_reads' HO114.out).2.2 (ji4) p117 q117; obtain rfl : ad116 = ad117 := (by injection e117); replace p117 := eq_true p117; replace q117 := eq_true q117; have p118 : 0 ≤ ((ji7) : Int) := of_decide_eq_true (by first | (with_reducible assumption) | assumption); have q118 : (ji7) < (y112.length : Int) := of_decide_eq_true (by first | (with_reducible assumption) | assumption); obtain ⟨ad118, e118, hx118_0⟩ := Kd.at_int (Kd.R_reads' HO114.out).2.2 (ji7) p118 q118; obtain rfl : ad116 = ad118 := (by injection e118); replace p118 := eq_true p118; replace q118 := eq_true q118))
              repeat (go_quiet (first | ((with_reducible refine gate_dst (N := 10) rfl ?_); refine Kd.R_lit (Kd.int .i64) _ 2 ?hg (N := 10) ?hd (xs := ([65536, 62757, 60097, 57549, 55109, 52773, 50535, 48393, 46341, 44376, 42495, 40693, 38968, 37316, 35734, 34219, 32768] : List Int)) (inner := [.int .i64 65536, .int .i64 62757, .int .i64 60097, .int .i64 57549, .int .i64 55109, .int .i64 52773, .int .i64 50535, .int .i64 48393, .int .i64 46341, .int .i64 44376, .int .i64 42495, .int .i64 40693, .int .i64 38968, .int .i64 37316, .int .i64 35734, .int .i64 34219, .int .i64 32768]) (ok := fun _ => True) (okp := fun _ => True) ?hr ?hp (fun _ hk => hk) trivial (Below.refl _ _) (Nat.le_refl _) (by simp) ?_; (case hd => rfl); (case hg => rfl); (case hr => first | (go_simp; done) | (go_simp; rfl)); (case hp => exact (Reps.one (show Kd.M (Kd.int .i64) _ _ _ 65536 [.int .i64 65536] from rfl) (Reps.one (show Kd.M (Kd.int .i64) _ _ _ 62757 [.int .i64 62757] from rfl) (Reps.one (show Kd.M (Kd.int .i64) _ _ _ 60097 [.int .i64 60097] from rfl) (Reps.one (show Kd.M (Kd.int .i64) _ _ _ 57549 [.int .i64 57549] from rfl) (Reps.one (show Kd.M (Kd.int .i64) _ _ _ 55109 [.int .i64 55109] from rfl) (Reps.one (show Kd.M (Kd.int .i64) _ _ _ 52773 [.int .i64 52773] from rfl) (Reps.one (show Kd.M (Kd.int .i64) _ _ _ 50535 [.int .i64 50535] from rfl) (Reps.one (show Kd.M (Kd.int .i64) _ _ _ 48393 [.int .i64 48393] from rfl) (Reps.one (show Kd.M (Kd.int .i64) _ _ _ 46341 [.int .i64 46341] from rfl) (Reps.one (show Kd.M (Kd.int .i64) _ _ _ 44376 [.int .i64 44376] from rfl) (Reps.one (show Kd.M (Kd.int .i64) _ _ _ 42495 [.int .i64 42495] from rfl) (Reps.one (show Kd.M (Kd.int .i64) _ _ _ 40693 [.int .i64 40693] from rfl) (Reps.one (show Kd.M (Kd.int .i64) _ _ _ 38968 [.int .i64 38968] from rfl) (Reps.one (show Kd.M (Kd.int .i64) _ _ _ 37316 [.int .i64 37316] from rfl) (Reps.one (show Kd.M (Kd.int .i64) _ _ _ 35734 [.int .i64 35734] from rfl) (Reps.one (show Kd.M (Kd.int .i64) _ _ _ 34219 [.int .i64 34219] from rfl) (Reps.one (show Kd.M (Kd.int .i64) _ _ _ 32768 [.int .i64 32768] from rfl) (Reps.none _ _))))))))))))))))))); intro v113 w18 ho19 hb hg_ hnew_; clear hg_ hnew_; (first | rw [← Ny112.out] at ho19 | (simp only [Int.reduceToNat] at ho19; rw [← Ny112.out] at ho19)); have n0_ := Aside0.mk (Kd.R_lower ho19 (below_size (by repeat (first | (with_reducible first | exact HB.out | apply below_alloc | apply pw_below_drewN | apply below_drew1) | exact HB.out)))); have n1_ := Aside0.mk (below_step (by repeat (first | (with_reducible first | exact HB.out | apply below_alloc | apply pw_below_drewN | apply below_drew1) | exact HB.out)) hb); clear HB; have HO114 := n0_; have HB := n1_; clear n0_ n1_; clear hb ho19) | (go_at_call 25; (with_reducible refine (aviaryref01_Mul.calls k ji2 94548 t115 _ A3.out).mono ?_); rintro e w20 ⟨rfl, hb⟩; have n0_ := Aside0.mk (Kd.R_below (by (with_reducible repeat (first | apply Kd.R_alloc | apply Kd.R_drewN | apply Kd.R_drew)); exact HO114.out) hb); have n1_ := Aside0.mk (below_step (by repeat (first | (with_reducible first | exact HB.out | apply below_alloc | apply pw_below_drewN | apply below_drew1) | exact HB.out)) hb); clear HO114; clear HB; have HO114 := n0_; have HB := n1_; clear n0_ n1_; (try clear hb); (try clear hb2); (try clear hk); (try clear hi); obtain ⟨Ao21, co21, eo21⟩ := Kd.R_slice HO114.out; subst eo21; have p116 : 0 ≤ ((ji4) : Int) := of_decide_eq_true (by first | (with_reducible assumption) | assumption); have q116 : (ji4) < (y112.length : Int) := of_decide_eq_true (by first | (with_reducible assumption) | assumption); obtain ⟨ad116, e116, hx116_0⟩ := Kd.at_int (Kd.R_reads' HO114.out).2.2 (ji4) p116 q116; cases e116; replace p116 := eq_true p116; replace q116 := eq_true q116; have p117 : 0 ≤ ((ji4) : Int) := of_decide_eq_true (by first | (with_reducible assumption) | assumption); have q117 : (ji4) < (y112.length : Int) := of_decide_eq_true (by first | (with_reducible assumption) | assumption); obtain ⟨ad117, e117, hx117_0⟩ := Kd.at_int (Kd.R_reads' HO114.out).2.2 (ji4) p117 q117; obtain rfl : ad116 = ad117 := (by injection e117); replace p117 := eq_true p117; replace q117 := eq_true q117; have p118 : 0 ≤ ((ji7) : Int) := of_decide_eq_true (by first | (with_reducible assumption) | assumption); have q118 : (ji7) < (y112.length : Int) := of_decide_eq_true (by first | (with_reducible assumption) | assumption); obtain ⟨ad118, e118, hx118_0⟩ := Kd.at_int (Kd.R_reads' HO114.out).2.2 (ji7) p118 q118; obtain rfl : ad116 = ad118 := (by injection e118); replace p118 := eq_true p118; replace q118 := eq_true q118)); try go_wp2_with (first | ((with_reducible refine gate_dst (N := 10) rfl ?_); refine Kd.R_lit (Kd.int .i64) _ 2 ?hg (N := 10) ?hd (xs := ([65536, 62757, 60097, 57549, 55109, 52773, 50535, 48393, 46341, 44376, 42495, 40693, 38968, 37316, 35734, 34219, 32768] : List Int)) (inner := [.int .i64 65536, .int .i64 62757, .int .i64 60097, .int .i64 57549, .int .i64 55109, .int .i64 52773, .int .i64 50535, .int .i64 48393, .int .i64 46341, .int .i64 44376, .int .i64 42495, .int .i64 40693, .int .i64 38968, .int .i64 37316, .int .i64 35734, .int .i64 34219, .int .i64 32768]) (ok := fun _ => True) (okp := fun _ => True) ?hr ?hp (fun _ hk => hk) trivial (Below.refl _ _) (Nat.le_refl _) (by simp) ?_; (case hd => rfl); (case hg => rfl); (case hr => first | (go_simp; done) | (go_simp; rfl)); (case hp => exact (Reps.one (show Kd.M (Kd.int .i64) _ _ _ 65536 [.int .i64 65536] from rfl) (Reps.one (show Kd.M (Kd.int .i64) _ _ _ 62757 [.int .i64 62757] from rfl) (Reps.one (show Kd.M (Kd.int .i64) _ _ _ 60097 [.int .i64 60097] from rfl) (Reps.one (show Kd.M (Kd.int .i64) _ _ _ 57549 [.int .i64 57549] from rfl) (Reps.one (show Kd.M (Kd.int .i64) _ _ _ 55109 [.int .i64 55109] from rfl) (Reps.one (show Kd.M (Kd.int .i64) _ _ _ 52773 [.int .i64 52773] from rfl) (Reps.one (show Kd.M (Kd.int .i64) _ _ _ 50535 [.int .i64 50535] from rfl) (Reps.one (show Kd.M (Kd.int .i64) _ _ _ 48393 [.int .i64 48393] from rfl) (Reps.one (show Kd.M (Kd.int .i64) _ _ _ 46341 [.int .i64 46341] from rfl) (Reps.one (show Kd.M (Kd.int .i64) _ _ _ 44376 [.int .i64 44376] from rfl) (Reps.one (show Kd.M (Kd.int .i64) _ _ _ 42495 [.int .i64 42495] from rfl) (Reps.one (show Kd.M (Kd.int .i64) _ _ _ 40693 [.int .i64 40693] from rfl) (Reps.one (show Kd.M (Kd.int .i64) _ _ _ 38968 [.int .i64 38968] from rfl) (Reps.one (show Kd.M (Kd.int .i64) _ _ _ 37316 [.int .i64 37316] from rfl) (Reps.one (show Kd.M (Kd.int .i64) _ _ _ 35734 [.int .i64 35734] from rfl) (Reps.one (show Kd.M (Kd.int .i64) _ _ _ 34219 [.int .i64 34219] from rfl) (Reps.one (show Kd.M (Kd.int .i64) _ _ _ 32768 [.int .i64 32768] from rfl) (Reps.none _ _))))))))))))))))))); intro v113 w18 ho19 hb hg_ hnew_; clear hg_ hnew_; (first | rw [← Ny112.out] at ho19 | (simp only [Int.reduceToNat] at ho19; rw [← Ny112.out] at ho19)); have n0_ := Aside0.mk (Kd.R_lower ho19 (below_size (by repeat (first | (with_reducible first | exact HB.out | apply below_alloc | apply pw_below_drewN | apply below_drew1) | exact HB.out)))); have n1_ := Aside0.mk (below_step (by repeat (first | (with_reducible first | exact HB.out | apply below_alloc | apply pw_below_drewN | apply below_drew1) | exact HB.out)) hb); clear HB; have HO114 := n0_; have HB := n1_; clear n0_ n1_; clear hb ho19) | (go_at_call 25; (with_reducible refine (aviaryref01_Mul.calls k ji2 94548 t115 _ A3.out).mono ?_); rintro e w20 ⟨rfl, hb⟩; have n0_ := Aside0.mk (Kd.R_below (by (with_reducible repeat (first | apply Kd.R_alloc | apply Kd.R_drewN | apply Kd.R_drew)); exact HO114.out) hb); have n1_ := Aside0.mk (below_step (by repeat (first | (with_reducible first | exact HB.out | apply below_alloc | apply pw_below_drewN | apply below_drew1) | exact HB.out)) hb); clear HO114; clear HB; have HO114 := n0_; have HB := n1_; clear n0_ n1_; (try clear hb); (try clear hb2); (try clear hk); (try clear hi); obtain ⟨Ao21, co21, eo21⟩ := Kd.R_slice HO114.out; subst eo21; have p116 : 0 ≤ ((ji4) : Int) := of_decide_eq_true (by first | (with_reducible assumption) | assumption); have q116 : (ji4) < (y112.length : Int) := of_decide_eq_true (by first | (with_reducible assumption) | assumption); obtain ⟨ad116, e116, hx116_0⟩ := Kd.at_int (Kd.R_reads' HO114.out).2.2 (ji4) p116 q116; cases e116; replace p116 := eq_true p116; replace q116 := eq_true q116; have p117 : 0 ≤ ((ji4) : Int) := of_decide_eq_true (by first | (with_reducible assumption) | assumption); have q117 : (ji4) < (y112.length : Int) := of_decide_eq_true (by first | (with_reducible assumption) | assumption); obtain ⟨ad117, e117, hx117_0⟩ := Kd.at_int (Kd.R_reads' HO114.out).2.2 (ji4) p117 q117; obtain rfl : ad116 = ad117 := (by injection e117); replace p117 := eq_true p117; replace q117 := eq_true q117; have p118 : 0 ≤ ((ji7) : Int) := of_decide_eq_true (by first | (with_reducible assumption) | assumption); have q118 : (ji7) < (y112.length : Int) := of_decide_eq_true (by first | (with_reducible assumption) | assumption); obtain ⟨ad118, e118, hx118_0⟩ := Kd.at_int (Kd.R_reads' HO114.out).2.2 (ji7) p118 q118; obtain rfl : ad116 = ad118 := (by injection e118); replace p118 := eq_true p118; replace q118 := eq_true q118)))
              go_ret
              exact ⟨by first | rfl | (simp [errW_none, errW_some] <;> rfl) | (simp only [← hji2, ← hji4, ← hji7, ← hji15, ← hji17]; first | rfl | (simp [errW_none, errW_some] <;> rfl)) | (simp [*, errW_none, errW_some] <;> rfl), by repeat (first | (with_reducible first | exact HB.out | apply below_alloc | apply pw_below_drewN | apply below_drew1) | exact HB.out)⟩
            · rw [if_neg c16] at H
              exact absurd H (by simp)
        · rw [if_neg c9] at H
          exact absurd H (by simp)
      · rw [if_neg c8] at H
        exact absurd H (by simp)
    · rw [if_neg c6] at H
      exact absurd H (by simp)
  · rw [if_neg c5] at H
    exact absurd H (by simp)

/-! ### curve_Rsqrt: function 12 -/
def curve_Rsqrt.l0 : Nat → Int → Int → Int → Option (Int)
  | 0, _, _, _ => none
  | k + 1, x3, x4, x5 => if (wrap64 (x5 - x4)) > 1 then (if (wrap64 ((wrap64 (Int.tdiv (wrap64 (x4 + x5)) 2)) * (wrap64 (Int.tdiv (wrap64 (x4 + x5)) 2)))) ≤ x3 then (curve_Rsqrt.l0 k x3 (wrap64 (Int.tdiv (wrap64 (x4 + x5)) 2)) x5) else (curve_Rsqrt.l0 k x3 x4 (wrap64 (Int.tdiv (wrap64 (x4 + x5)) 2)))) else (some x4)
def curve_Rsqrt.f (k : Nat) (a0 : Int) : Option (Int) := (sat_Clamp.f a0).bind fun t119 => (if t119 < 1 then (some 2147483647) else (if t119 = 0 then (none) else (curve_Rsqrt.l0 k (wrap64 (Int.tdiv (281474976710656 : Int) t119)) 0 16777217)))
theorem curve_Rsqrt.mono_l : ∀ k, (∀ y0 y1 y2, LeO (curve_Rsqrt.l0 k y0 y1 y2) (curve_Rsqrt.l0 (k + 1) y0 y1 y2))
  | 0 => fun _ _ _ r h => by simp [curve_Rsqrt.l0] at h
  | k + 1 => by
    have ih0 := curve_Rsqrt.mono_l k
    · intro y0 y1 y2
      unfold curve_Rsqrt.l0
      repeat' first
      | (with_reducible exact ih0 _ _ _)
      | (with_reducible exact LeO.refl _)
      | (with_reducible exact LeO.none _)
      | (with_reducible refine LeO.ite ?_ ?_)
      | (with_reducible refine LeO.bind ?_ (fun _ => ?_))
      | exact ih0 _ _ _
      | exact LeO.none _
      | refine LeO.ite ?_ ?_
      | refine LeO.bind ?_ (fun _ => ?_)
theorem curve_Rsqrt.mono : ∀ a0 k, LeO (curve_Rsqrt.f k a0) (curve_Rsqrt.f (k + 1) a0) := by
  intro a0 k
  have ih0 := curve_Rsqrt.mono_l k
  unfold curve_Rsqrt.f
  repeat' first
      | (with_reducible exact ih0 _ _ _)
      | (with_reducible exact LeO.refl _)
      | (with_reducible exact LeO.none _)
      | (with_reducible refine LeO.ite ?_ ?_)
      | (with_reducible refine LeO.bind ?_ (fun _ => ?_))
      | exact ih0 _ _ _
      | exact LeO.none _
      | refine LeO.ite ?_ ?_
      | refine LeO.bind ?_ (fun _ => ?_)
set_option maxHeartbeats 8000000 in
set_option maxRecDepth 100000 in
theorem curve_Rsqrt.calls (k : Nat) (a0 : Int) (r : Int) (w : World) (h : curve_Rsqrt.f k a0 = some r) :
    Calls Try.prog 12 #[.int .i64 a0] w fun e w' => e = .returned (.int .i64 r) ∧ Below w.heap.size w w' := by
  have HB := Aside0.mk (Below.refl w.heap.size w)
  have H : ((sat_Clamp.f a0).bind fun t119 => (if t119 < 1 then (some 2147483647) else (if t119 = 0 then (none) else (curve_Rsqrt.l0 k (wrap64 (Int.tdiv (281474976710656 : Int) t119)) 0 16777217)))) = some r := h
  clear h
  replace H := Option.bind_eq_some_iff.mp H
  obtain ⟨t119, A20, H⟩ := H
  replace H : (if t119 < 1 then (some 2147483647) else (if t119 = 0 then (none) else (curve_Rsqrt.l0 k (wrap64 (Int.tdiv (281474976710656 : Int) t119)) 0 16777217))) = some r := H
  have A2 := Aside0.mk A20
  clear A20
  by_cases c3 : t119 < 1
  · rw [if_pos c3] at H
    have c3b0 : decide (t119 < 1) = true := decide_eq_true c3
    clear c3
    obtain rfl := Option.some.inj H
    go_enter Try.func12, Try.ntmps12
    go_wp2_with (first | ((with_reducible refine gate_callee (f := 26) rfl ?_); refine goesL_ (some 8) rfl rfl Try.func26 (by kernel_rfl) rfl #[.int .i64 a0] rfl (by (try simp only [List.map_toArray, List.map_cons, List.map_nil]); first | done | rfl | (simp only [List.length_drop, List.length_take]; rfl)) ?_; (with_reducible refine (sat_Clamp.calls a0 t119 _ A2.out).mono ?_); rintro e w4 ⟨rfl, hb⟩; refine ⟨_, rfl, ?_⟩; have n0_ := Aside0.mk (below_step (by repeat (first | (with_reducible first | exact HB.out | apply below_alloc | apply pw_below_drewN | apply below_drew1) | exact HB.out)) hb); clear HB; have HB := n0_; clear n0_; (try clear hb); (try clear hb2); (try clear hk); (try clear hi)))
    go_ret
    exact ⟨by first | rfl | (simp [errW_none, errW_some] <;> rfl) | (simp [*, errW_none, errW_some] <;> rfl), by repeat (first | (with_reducible first | exact HB.out | apply below_alloc | apply pw_below_drewN | apply below_drew1) | exact HB.out)⟩
  · rw [if_neg c3] at H
    have c3b0 : decide (t119 < 1) = false := decide_eq_false c3
    clear c3
    by_cases c5 : t119 = 0
    · rw [if_pos c5] at H
      exact absurd H (by simp)
    · rw [if_neg c5] at H
      have c5b0 : (t119 == 0) = false := beq_eq_false_iff_ne.mpr c5
      have c5b1 : (t119 != 0) = true := bne_iff_ne.mpr c5
      have H' := Aside0.mk H
      clear H
      go_enter Try.func12, Try.ntmps12
      go_wp2_with (first | ((with_reducible refine gate_callee (f := 26) rfl ?_); refine goesL_ (some 8) rfl rfl Try.func26 (by kernel_rfl) rfl #[.int .i64 a0] rfl (by (try simp only [List.map_toArray, List.map_cons, List.map_nil]); first | done | rfl | (simp only [List.length_drop, List.length_take]; rfl)) ?_; (with_reducible refine (sat_Clamp.calls a0 t119 _ A2.out).mono ?_); rintro e w6 ⟨rfl, hb⟩; refine ⟨_, rfl, ?_⟩; have n0_ := Aside0.mk (below_step (by repeat (first | (with_reducible first | exact HB.out | apply below_alloc | apply pw_below_drewN | apply below_drew1) | exact HB.out)) hb); clear HB; have HB := n0_; clear n0_; (try clear hb); (try clear hb2); (try clear hk); (try clear hi)))
      go_loopg [4, 5] k (fun kq v4 v5 w' => ∃ (x4_1 : Int) (x5_1 : Int), v4 = .int .i64 x4_1 ∧ v5 = .int .i64 x5_1 ∧ Aside0 (curve_Rsqrt.l0 kq (wrap64 (Int.tdiv (281474976710656 : Int) t119)) x4_1 x5_1 = some r) ∧ Aside0 (kq ≤ k) ∧ Aside0 (Below w.heap.size w w'))
      case atStart => exact ⟨(0), (16777217), (by first | rfl | (simp; done) | (simp [*]; done)), (by first | rfl | (simp; done) | (simp [*]; done)), H', ⟨Nat.le_refl _⟩, ⟨by repeat (first | (with_reducible first | exact HB.out | apply below_alloc | apply pw_below_drewN | apply below_drew1) | exact HB.out)⟩⟩
      case round =>
        clear H'
        try clear c1
        try clear c2
        try clear p2
        try clear c3
        try clear c3b0
        try clear c5
        try clear c5b0
        try clear c5b1
        try clear p6
        obtain ⟨x4_1, x5_1, rfl, rfl, HA, HK1, HB⟩ := hrel
        cases gk with
        | zero => exact absurd HA.out (by simp [curve_Rsqrt.l0])
        | succ k1 =>
          have H := HA.out
          clear HA
          simp only [curve_Rsqrt.l0] at H
          by_cases c7 : (wrap64 (x5_1 - x4_1)) > 1
          · rw [if_pos c7] at H
            have c7b0 : decide (1 < (wrap64 (x5_1 - x4_1))) = true := decide_eq_true c7
            clear c7
            by_cases c8 : (wrap64 ((wrap64 (Int.tdiv (wrap64 (x4_1 + x5_1)) 2)) * (wrap64 (Int.tdiv (wrap64 (x4_1 + x5_1)) 2)))) ≤ (wrap64 (Int.tdiv (281474976710656 : Int) t119))
            · rw [if_pos c8] at H
              have c8b0 : decide ((wrap64 ((wrap64 (Int.tdiv (wrap64 (x4_1 + x5_1)) 2)) * (wrap64 (Int.tdiv (wrap64 (x4_1 + x5_1)) 2)))) ≤ (wrap64 (Int.tdiv (281474976710656 : Int) t119))) = true := decide_eq_true c8
              clear c8
              have H' := Aside0.mk H
              clear H
              go_wp2
              go_roundg k1
              case measure => have := HK1.out; omega
              case rel => exact ⟨(wrap64 (Int.tdiv (wrap64 (x4_1 + x5_1)) 2)), (x5_1), (by first | rfl | (simp; done) | (simp [*]; done)), (by first | rfl | (simp; done) | (simp [*]; done)), H', ⟨by have := HK1.out; omega⟩, ⟨by repeat (first | (with_reducible first | exact HB.out | apply below_alloc | apply pw_below_drewN | apply below_drew1) | exact HB.out)⟩⟩
            · rw [if_neg c8] at H
              have c8b0 : decide ((wrap64 ((wrap64 (Int.tdiv (wrap64 (x4_1 + x5_1)) 2)) * (wrap64 (Int.tdiv (wrap64 (x4_1 + x5_1)) 2)))) ≤ (wrap64 (Int.tdiv (281474976710656 : Int) t119))) = false := decide_eq_false c8
              clear c8
              have H' := Aside0.mk H
              clear H
              go_wp2
              go_roundg k1
              case measure => have := HK1.out; omega
              case rel => exact ⟨(x4_1), (wrap64 (Int.tdiv (wrap64 (x4_1 + x5_1)) 2)), (by first | rfl | (simp; done) | (simp [*]; done)), (by first | rfl | (simp; done) | (simp [*]; done)), H', ⟨by have := HK1.out; omega⟩, ⟨by repeat (first | (with_reducible first | exact HB.out | apply below_alloc | apply pw_below_drewN | apply below_drew1) | exact HB.out)⟩⟩
          · rw [if_neg c7] at H
            have c7b0 : decide (1 < (wrap64 (x5_1 - x4_1))) = false := decide_eq_false c7
            clear c7
            obtain rfl := Option.some.inj H
            go_wp2
            go_ret
            exact ⟨by first | rfl | (simp [errW_none, errW_some] <;> rfl) | (simp [*, errW_none, errW_some] <;> rfl), by repeat (first | (with_reducible first | exact HB.out | apply below_alloc | apply pw_below_drewN | apply below_drew1) | exact HB.out)⟩

/-! ### aviaryref03_Rsqrt: function 13 -/
def aviaryref03_Rsqrt.l0 : Nat → Int → Int → Int → Option (Int)
  | 0, _, _, _ => none
  | k + 1, x0, x3, x4 => if x4 > 0 then (if x0 = 0 then (none) else (if (wrap64 ((wrap64 (x3 + x4)) * (wrap64 (x3 + x4)))) ≤ (wrap64 (Int.tdiv (281474976710656 : Int) x0)) then (aviaryref03_Rsqrt.l0 k x0 (wrap64 (x3 + x4)) (wrap64 (Int.tdiv x4 2))) else (aviaryref03_Rsqrt.l0 k x0 x3 (wrap64 (Int.tdiv x4 2))))) else (some x3)
def aviaryref03_Rsqrt.f (k : Nat) (a0 : Int) : Option (Int) := (aviaryref01_Clamp.f a0).bind fun t120 => (if t120 < 1 then (some 2147483647) else (aviaryref03_Rsqrt.l0 k t120 0 16777216))
theorem aviaryref03_Rsqrt.mono_l : ∀ k, (∀ y0 y1 y2, LeO (aviaryref03_Rsqrt.l0 k y0 y1 y2) (aviaryref03_Rsqrt.l0 (k + 1) y0 y1 y2))
  | 0 => fun _ _ _ r h => by simp [aviaryref03_Rsqrt.l0] at h
  | k + 1 => by
    have ih0 := aviaryref03_Rsqrt.mono_l k
    · intro y0 y1 y2
      unfold aviaryref03_Rsqrt.l0
      repeat' first
      | (with_reducible exact ih0 _ _ _)
      | (with_reducible exact LeO.refl _)
      | (with_reducible exact LeO.none _)
      | (with_reducible refine LeO.ite ?_ ?_)
      | (with_reducible refine LeO.bind ?_ (fun _ => ?_))
      | exact ih0 _ _ _
      | exact LeO.none _
      | refine LeO.ite ?_ ?_
      | refine LeO.bind ?_ (fun _ => ?_)
theorem aviaryref03_Rsqrt.mono : ∀ a0 k, LeO (aviaryref03_Rsqrt.f k a0) (aviaryref03_Rsqrt.f (k + 1) a0) := by
  intro a0 k
  have ih0 := aviaryref03_Rsqrt.mono_l k
  unfold aviaryref03_Rsqrt.f
  repeat' first
      | (with_reducible exact ih0 _ _ _)
      | (with_reducible exact LeO.refl _)
      | (with_reducible exact LeO.none _)
      | (with_reducible refine LeO.ite ?_ ?_)
      | (with_reducible refine LeO.bind ?_ (fun _ => ?_))
      | exact ih0 _ _ _
      | exact LeO.none _
      | refine LeO.ite ?_ ?_
      | refine LeO.bind ?_ (fun _ => ?_)
set_option maxHeartbeats 8000000 in
set_option maxRecDepth 100000 in
theorem aviaryref03_Rsqrt.calls (k : Nat) (a0 : Int) (r : Int) (w : World) (h : aviaryref03_Rsqrt.f k a0 = some r) :
    Calls Try.prog 13 #[.int .i64 a0] w fun e w' => e = .returned (.int .i64 r) ∧ Below w.heap.size w w' := by
  have HB := Aside0.mk (Below.refl w.heap.size w)
  have H : ((aviaryref01_Clamp.f a0).bind fun t120 => (if t120 < 1 then (some 2147483647) else (aviaryref03_Rsqrt.l0 k t120 0 16777216))) = some r := h
  clear h
  replace H := Option.bind_eq_some_iff.mp H
  obtain ⟨t120, A20, H⟩ := H
  replace H : (if t120 < 1 then (some 2147483647) else (aviaryref03_Rsqrt.l0 k t120 0 16777216)) = some r := H
  have A2 := Aside0.mk A20
  clear A20
  by_cases c3 : t120 < 1
  · rw [if_pos c3] at H
    have c3b0 : decide (t120 < 1) = true := decide_eq_true c3
    clear c3
    obtain rfl := Option.some.inj H
    go_enter Try.func13, Try.ntmps13
    go_wp2_with (first | ((with_reducible refine gate_callee (f := 27) rfl ?_); refine goesL_ (some 6) rfl rfl Try.func27 (by kernel_rfl) rfl #[.int .i64 a0] rfl (by (try simp only [List.map_toArray, List.map_cons, List.map_nil]); first | done | rfl | (simp only [List.length_drop, List.length_take]; rfl)) ?_; (with_reducible refine (aviaryref01_Clamp.calls a0 t120 _ A2.out).mono ?_); rintro e w4 ⟨rfl, hb⟩; refine ⟨_, rfl, ?_⟩; have n0_ := Aside0.mk (below_step (by repeat (first | (with_reducible first | exact HB.out | apply below_alloc | apply pw_below_drewN | apply below_drew1) | exact HB.out)) hb); clear HB; have HB := n0_; clear n0_; (try clear hb); (try clear hb2); (try clear hk); (try clear hi)))
    go_ret
    exact ⟨by first | rfl | (simp [errW_none, errW_some] <;> rfl) | (simp [*, errW_none, errW_some] <;> rfl), by repeat (first | (with_reducible first | exact HB.out | apply below_alloc | apply pw_below_drewN | apply below_drew1) | exact HB.out)⟩
  · rw [if_neg c3] at H
    have c3b0 : decide (t120 < 1) = false := decide_eq_false c3
    clear c3
    have H' := Aside0.mk H
    clear H
    go_enter Try.func13, Try.ntmps13
    go_wp2_with (first | ((with_reducible refine gate_callee (f := 27) rfl ?_); refine goesL_ (some 6) rfl rfl Try.func27 (by kernel_rfl) rfl #[.int .i64 a0] rfl (by (try simp only [List.map_toArray, List.map_cons, List.map_nil]); first | done | rfl | (simp only [List.length_drop, List.length_take]; rfl)) ?_; (with_reducible refine (aviaryref01_Clamp.calls a0 t120 _ A2.out).mono ?_); rintro e w5 ⟨rfl, hb⟩; refine ⟨_, rfl, ?_⟩; have n0_ := Aside0.mk (below_step (by repeat (first | (with_reducible first | exact HB.out | apply below_alloc | apply pw_below_drewN | apply below_drew1) | exact HB.out)) hb); clear HB; have HB := n0_; clear n0_; (try clear hb); (try clear hb2); (try clear hk); (try clear hi)))
    go_loopg [3, 4] k (fun kq v3 v4 w' => ∃ (x3_1 : Int) (x4_1 : Int), v3 = .int .i64 x3_1 ∧ v4 = .int .i64 x4_1 ∧ Aside0 (aviaryref03_Rsqrt.l0 kq t120 x3_1 x4_1 = some r) ∧ Aside0 (kq ≤ k) ∧ Aside0 (Below w.heap.size w w'))
    case atStart => exact ⟨(0), (16777216), (by first | rfl | (simp; done) | (simp [*]; done)), (by first | rfl | (simp; done) | (simp [*]; done)), H', ⟨Nat.le_refl _⟩, ⟨by repeat (first | (with_reducible first | exact HB.out | apply below_alloc | apply pw_below_drewN | apply below_drew1) | exact HB.out)⟩⟩
    case round =>
      clear H'
      try clear c1
      try clear c2
      try clear p2
      try clear c3
      try clear c3b0
      obtain ⟨x3_1, x4_1, rfl, rfl, HA, HK1, HB⟩ := hrel
      cases gk with
      | zero => exact absurd HA.out (by simp [aviaryref03_Rsqrt.l0])
      | succ k1 =>
        have H := HA.out
        clear HA
        simp only [aviaryref03_Rsqrt.l0] at H
        by_cases c6 : x4_1 > 0
        · rw [if_pos c6] at H
          have c6b0 : decide (0 < x4_1) = true := decide_eq_true c6
          clear c6
          by_cases c7 : t120 = 0
          · rw [if_pos c7] at H
            exact absurd H (by simp)
          · rw [if_neg c7] at H
            have c7b0 : (t120 == 0) = false := beq_eq_false_iff_ne.mpr c7
            have c7b1 : (t120 != 0) = true := bne_iff_ne.mpr c7
            by_cases c8 : (wrap64 ((wrap64 (x3_1 + x4_1)) * (wrap64 (x3_1 + x4_1)))) ≤ (wrap64 (Int.tdiv (281474976710656 : Int) t120))
            · rw [if_pos c8] at H
              have c8b0 : decide ((wrap64 ((wrap64 (x3_1 + x4_1)) * (wrap64 (x3_1 + x4_1)))) ≤ (wrap64 (Int.tdiv (281474976710656 : Int) t120))) = true := decide_eq_true c8
              clear c8
              have H' := Aside0.mk H
              clear H
              go_wp2
              go_roundg k1
              case measure => have := HK1.out; omega
              case rel => exact ⟨(wrap64 (x3_1 + x4_1)), (wrap64 (Int.tdiv x4_1 2)), (by first | rfl | (simp; done) | (simp [*]; done)), (by first | rfl | (simp; done) | (simp [*]; done)), H', ⟨by have := HK1.out; omega⟩, ⟨by repeat (first | (with_reducible first | exact HB.out | apply below_alloc | apply pw_below_drewN | apply below_drew1) | exact HB.out)⟩⟩
            · rw [if_neg c8] at H
              have c8b0 : decide ((wrap64 ((wrap64 (x3_1 + x4_1)) * (wrap64 (x3_1 + x4_1)))) ≤ (wrap64 (Int.tdiv (281474976710656 : Int) t120))) = false := decide_eq_false c8
              clear c8
              have H' := Aside0.mk H
              clear H
              go_wp2
              go_roundg k1
              case measure => have := HK1.out; omega
              case rel => exact ⟨(x3_1), (wrap64 (Int.tdiv x4_1 2)), (by first | rfl | (simp; done) | (simp [*]; done)), (by first | rfl | (simp; done) | (simp [*]; done)), H', ⟨by have := HK1.out; omega⟩, ⟨by repeat (first | (with_reducible first | exact HB.out | apply below_alloc | apply pw_below_drewN | apply below_drew1) | exact HB.out)⟩⟩
        · rw [if_neg c6] at H
          have c6b0 : decide (0 < x4_1) = false := decide_eq_false c6
          clear c6
          obtain rfl := Option.some.inj H
          go_wp2
          go_ret
          exact ⟨by first | rfl | (simp [errW_none, errW_some] <;> rfl) | (simp [*, errW_none, errW_some] <;> rfl), by repeat (first | (with_reducible first | exact HB.out | apply below_alloc | apply pw_below_drewN | apply below_drew1) | exact HB.out)⟩

/-! ### aviarylaw03_CurvePowers: function 3 -/
def aviarylaw03_CurvePowers.f (k : Nat) (a0 : Int) : Option (Bool) := (curve_Exp.f a0).bind fun t121 => ((aviaryref03_Exp.f k a0).bind fun t122 => (if t121 = t122 then ((curve_Rsqrt.f k a0).bind fun t123 => ((aviaryref03_Rsqrt.f k a0).bind fun t124 => (some (t123 == t124)))) else (some false)))
theorem aviarylaw03_CurvePowers.mono : ∀ a0 k, LeO (aviarylaw03_CurvePowers.f k a0) (aviarylaw03_CurvePowers.f (k + 1) a0) := by
  intro a0 k
  unfold aviarylaw03_CurvePowers.f
  repeat' first
      | (with_reducible exact aviaryref03_Exp.mono _ _)
      | (with_reducible exact aviaryref03_Rsqrt.mono _ _)
      | (with_reducible exact curve_Rsqrt.mono _ _)
      | (with_reducible exact LeO.refl _)
      | (with_reducible exact LeO.none _)
      | (with_reducible refine LeO.ite ?_ ?_)
      | (with_reducible refine LeO.bind ?_ (fun _ => ?_))
      | exact aviaryref03_Exp.mono _ _
      | exact aviaryref03_Rsqrt.mono _ _
      | exact curve_Rsqrt.mono _ _
      | exact LeO.none _
      | refine LeO.ite ?_ ?_
      | refine LeO.bind ?_ (fun _ => ?_)
set_option maxHeartbeats 8000000 in
set_option maxRecDepth 100000 in
theorem aviarylaw03_CurvePowers.calls (k : Nat) (a0 : Int) (r : Bool) (w : World) (h : aviarylaw03_CurvePowers.f k a0 = some r) :
    Calls Try.prog 3 #[.int .i64 a0] w fun e w' => e = .returned (.bool r) ∧ Below w.heap.size w w' := by
  have HB := Aside0.mk (Below.refl w.heap.size w)
  have H : ((curve_Exp.f a0).bind fun t121 => ((aviaryref03_Exp.f k a0).bind fun t122 => (if t121 = t122 then ((curve_Rsqrt.f k a0).bind fun t123 => ((aviaryref03_Rsqrt.f k a0).bind fun t124 => (some (t123 == t124)))) else (some false)))) = some r := h
  clear h
  replace H := Option.bind_eq_some_iff.mp H
  obtain ⟨t121, A20, H⟩ := H
  replace H : ((aviaryref03_Exp.f k a0).bind fun t122 => (if t121 = t122 then ((curve_Rsqrt.f k a0).bind fun t123 => ((aviaryref03_Rsqrt.f k a0).bind fun t124 => (some (t123 == t124)))) else (some false))) = some r := H
  have A2 := Aside0.mk A20
  clear A20
  replace H := Option.bind_eq_some_iff.mp H
  obtain ⟨t122, A30, H⟩ := H
  replace H : (if t121 = t122 then ((curve_Rsqrt.f k a0).bind fun t123 => ((aviaryref03_Rsqrt.f k a0).bind fun t124 => (some (t123 == t124)))) else (some false)) = some r := H
  have A3 := Aside0.mk A30
  clear A30
  by_cases c4 : t121 = t122
  · rw [if_pos c4] at H
    have c4b0 : (t121 == t122) = true := beq_iff_eq.mpr c4
    have c4b1 : (t121 != t122) = false := bne_eq_false_iff_eq.mpr c4
    clear c4
    replace H := Option.bind_eq_some_iff.mp H
    obtain ⟨t123, A50, H⟩ := H
    replace H : ((aviaryref03_Rsqrt.f k a0).bind fun t124 => (some (t123 == t124))) = some r := H
    have A5 := Aside0.mk A50
    clear A50
    replace H := Option.bind_eq_some_iff.mp H
    obtain ⟨t124, A60, H⟩ := H
    replace H : (some (t123 == t124)) = some r := H
    have A6 := Aside0.mk A60
    clear A60
    obtain rfl := Option.some.inj H
    go_enter Try.func3, Try.ntmps3
    go_wp2_with (first | ((with_reducible refine gate_callee (f := 10) rfl ?_); refine goesL_ (some 4) rfl rfl Try.func10 (by kernel_rfl) rfl #[.int .i64 a0] rfl (by (try simp only [List.map_toArray, List.map_cons, List.map_nil]); first | done | rfl | (simp only [List.length_drop, List.length_take]; rfl)) ?_; (with_reducible refine (curve_Exp.calls a0 t121 _ A2.out).mono ?_); rintro e w7 ⟨rfl, hb⟩; refine ⟨_, rfl, ?_⟩; have n0_ := Aside0.mk (below_step (by repeat (first | (with_reducible first | exact HB.out | apply below_alloc | apply pw_below_drewN | apply below_drew1) | exact HB.out)) hb); clear HB; have HB := n0_; clear n0_; (try clear hb); (try clear hb2); (try clear hk); (try clear hi)) | ((with_reducible refine gate_callee (f := 11) rfl ?_); refine goesL_ (some 6) rfl rfl Try.func11 (by kernel_rfl) rfl #[.int .i64 a0] rfl (by (try simp only [List.map_toArray, List.map_cons, List.map_nil]); first | done | rfl | (simp only [List.length_drop, List.length_take]; rfl)) ?_; (with_reducible refine (aviaryref03_Exp.calls k a0 t122 _ A3.out).mono ?_); rintro e w8 ⟨rfl, hb⟩; refine ⟨_, rfl, ?_⟩; have n0_ := Aside0.mk (below_step (by repeat (first | (with_reducible first | exact HB.out | apply below_alloc | apply pw_below_drewN | apply below_drew1) | exact HB.out)) hb); clear HB; have HB := n0_; clear n0_; (try clear hb); (try clear hb2); (try clear hk); (try clear hi)) | (go_at_call 12; (with_reducible refine (curve_Rsqrt.calls k a0 t123 _ A5.out).mono ?_); rintro e w9 ⟨rfl, hb⟩; have n0_ := Aside0.mk (below_step (by repeat (first | (with_reducible first | exact HB.out | apply below_alloc | apply pw_below_drewN | apply below_drew1) | exact HB.out)) hb); clear HB; have HB := n0_; clear n0_; (try clear hb); (try clear hb2); (try clear hk); (try clear hi)) | (go_at_call 13; (with_reducible refine (aviaryref03_Rsqrt.calls k a0 t124 _ A6.out).mono ?_); rintro e w10 ⟨rfl, hb⟩; have n0_ := Aside0.mk (below_step (by repeat (first | (with_reducible first | exact HB.out | apply below_alloc | apply pw_below_drewN | apply below_drew1) | exact HB.out)) hb); clear HB; have HB := n0_; clear n0_; (try clear hb); (try clear hb2); (try clear hk); (try clear hi)))
    go_ret
    exact ⟨by first | rfl | (simp [errW_none, errW_some] <;> rfl) | (simp [*, errW_none, errW_some] <;> rfl), by repeat (first | (with_reducible first | exact HB.out | apply below_alloc | apply pw_below_drewN | apply below_drew1) | exact HB.out)⟩
  · rw [if_neg c4] at H
    have c4b0 : (t121 == t122) = false := beq_eq_false_iff_ne.mpr c4
    have c4b1 : (t121 != t122) = true := bne_iff_ne.mpr c4
    obtain rfl := Option.some.inj H
    go_enter Try.func3, Try.ntmps3
    go_wp2_with (first | ((with_reducible refine gate_callee (f := 10) rfl ?_); refine goesL_ (some 4) rfl rfl Try.func10 (by kernel_rfl) rfl #[.int .i64 a0] rfl (by (try simp only [List.map_toArray, List.map_cons, List.map_nil]); first | done | rfl | (simp only [List.length_drop, List.length_take]; rfl)) ?_; (with_reducible refine (curve_Exp.calls a0 t121 _ A2.out).mono ?_); rintro e w11 ⟨rfl, hb⟩; refine ⟨_, rfl, ?_⟩; have n0_ := Aside0.mk (below_step (by repeat (first | (with_reducible first | exact HB.out | apply below_alloc | apply pw_below_drewN | apply below_drew1) | exact HB.out)) hb); clear HB; have HB := n0_; clear n0_; (try clear hb); (try clear hb2); (try clear hk); (try clear hi)) | ((with_reducible refine gate_callee (f := 11) rfl ?_); refine goesL_ (some 6) rfl rfl Try.func11 (by kernel_rfl) rfl #[.int .i64 a0] rfl (by (try simp only [List.map_toArray, List.map_cons, List.map_nil]); first | done | rfl | (simp only [List.length_drop, List.length_take]; rfl)) ?_; (with_reducible refine (aviaryref03_Exp.calls k a0 t122 _ A3.out).mono ?_); rintro e w12 ⟨rfl, hb⟩; refine ⟨_, rfl, ?_⟩; have n0_ := Aside0.mk (below_step (by repeat (first | (with_reducible first | exact HB.out | apply below_alloc | apply pw_below_drewN | apply below_drew1) | exact HB.out)) hb); clear HB; have HB := n0_; clear n0_; (try clear hb); (try clear hb2); (try clear hk); (try clear hi)))
    go_ret
    exact ⟨by first | rfl | (simp [errW_none, errW_some] <;> rfl) | (simp [*, errW_none, errW_some] <;> rfl), by repeat (first | (with_reducible first | exact HB.out | apply below_alloc | apply pw_below_drewN | apply below_drew1) | exact HB.out)⟩

/-- THE ONE PURE STATEMENT of aviarylaw03_CurvePowers: yours. -/
def aviarylaw03_CurvePowers.Pure : Prop := ∀ (a0 : Int), (Lit.int .i64 a0).wf = true → ∃ k, aviarylaw03_CurvePowers.f k a0 = some true
theorem aviarylaw03_CurvePowers.walk (P : aviarylaw03_CurvePowers.Pure) (a0 : Int) (w : World) (w0 : (Lit.int .i64 a0).wf = true) :
    Calls Try.prog 3 #[.int .i64 a0] w fun e w' => e = .returned (.bool true) ∧ Below w.heap.size w w' := by
  obtain ⟨k, h⟩ := P a0 w0
  refine (aviarylaw03_CurvePowers.calls k a0 true w h).mono ?_
  rintro e w' ⟨rfl, hd⟩
  exact ⟨rfl, hd⟩

end Go.Proofs.Ytfcchiocjefeeaa.PCurvePowers
