import Derived.Test.YtogmdelhobkniaaPSatShiftsx0
namespace Go.Proofs.Ytogmdelhobkniaa.PSatShifts
open Go.RowKit Go.Proofs.YtogmdelhobkniaaW.PrintWords Go.Proofs.YtogmdelhobkniaaW.PrintLast Go.Proofs.YtogmdelhobkniaaW.PrintMore
attribute [local go_sem] max2_int min2_int max_two min_two max_three min_three max_four min_four   -- for this text's walks alone
set_option linter.unusedVariables false
set_option linter.unusedSimpArgs false

/-! ### sat_Shift: function 13 -/
def sat_Shift.f (a0 : Int) (a1 : Int) : Option (Int) := if (mx (mn a1 62) 0) = 0 then (some a0) else (if 0 ≤ ((mx (mn a1 62) 0) - 1) then (if (Go.bits .and .i64 a0 (wrap64 ((wrap64 (2 ^ (mx (mn a1 62) 0).toNat)) - 1))) > (wrap64 (2 ^ ((mx (mn a1 62) 0) - 1).toNat)) then (some (wrap64 ((a0 / 2 ^ (mx (mn a1 62) 0).toNat) + 1))) else (if (Go.bits .and .i64 a0 (wrap64 ((wrap64 (2 ^ (mx (mn a1 62) 0).toNat)) - 1))) = (wrap64 (2 ^ ((mx (mn a1 62) 0) - 1).toNat)) then (if a0 > 0 then (some (wrap64 ((a0 / 2 ^ (mx (mn a1 62) 0).toNat) + 1))) else (some (a0 / 2 ^ (mx (mn a1 62) 0).toNat))) else (some (a0 / 2 ^ (mx (mn a1 62) 0).toNat)))) else (none))
set_option maxHeartbeats 8000000 in
set_option maxRecDepth 100000 in
theorem sat_Shift.calls (a0 : Int) (a1 : Int) (r : Int) (w : World) (h : sat_Shift.f a0 a1 = some r) :
    Calls Try.prog 13 #[.int .i64 a0, .int .i64 a1] w fun e w' => e = .returned (.int .i64 r) ∧ Below w.heap.size w w' := by
  have HB := Aside0.mk (Below.refl w.heap.size w)
  have H : (if (mx (mn a1 62) 0) = 0 then (some a0) else (if 0 ≤ ((mx (mn a1 62) 0) - 1) then (if (Go.bits .and .i64 a0 (wrap64 ((wrap64 (2 ^ (mx (mn a1 62) 0).toNat)) - 1))) > (wrap64 (2 ^ ((mx (mn a1 62) 0) - 1).toNat)) then (some (wrap64 ((a0 / 2 ^ (mx (mn a1 62) 0).toNat) + 1))) else (if (Go.bits .and .i64 a0 (wrap64 ((wrap64 (2 ^ (mx (mn a1 62) 0).toNat)) - 1))) = (wrap64 (2 ^ ((mx (mn a1 62) 0) - 1).toNat)) then (if a0 > 0 then (some (wrap64 ((a0 / 2 ^ (mx (mn a1 62) 0).toNat) + 1))) else (some (a0 / 2 ^ (mx (mn a1 62) 0).toNat))) else (some (a0 / 2 ^ (mx (mn a1 62) 0).toNat)))) else (none))) = some r := h
  clear h
  obtain ⟨ji3, hji3⟩ : ∃ j_ : Int, (mn a1 62) = j_ := ⟨_, rfl⟩
  replace H : (if (mx (ji3) 0) = 0 then (some a0) else (if 0 ≤ ((mx (ji3) 0) - 1) then (if (Go.bits .and .i64 a0 (wrap64 ((wrap64 (2 ^ (mx (ji3) 0).toNat)) - 1))) > (wrap64 (2 ^ ((mx (ji3) 0) - 1).toNat)) then (some (wrap64 ((a0 / 2 ^ (mx (ji3) 0).toNat) + 1))) else (if (Go.bits .and .i64 a0 (wrap64 ((wrap64 (2 ^ (mx (ji3) 0).toNat)) - 1))) = (wrap64 (2 ^ ((mx (ji3) 0) - 1).toNat)) then (if a0 > 0 then (some (wrap64 ((a0 / 2 ^ (mx (ji3) 0).toNat) + 1))) else (some (a0 / 2 ^ (mx (ji3) 0).toNat))) else (some (a0 / 2 ^ (mx (ji3) 0).toNat)))) else (none))) = some r := by first | (rw [hji3] at H; exact H) | (simp only [hji3] at H ⊢; exact H)
  (try (have hji3h : ji3 ≤ 62 := by (rw [← hji3]; unfold mn; (repeat' split) <;> omega)))
  (try (have hji3g : ji3 ≤ 64 := by omega))
  have hji3_ : (if 62 < a1 then 62 else a1) = ji3 := hji3
  obtain ⟨ji4, hji4⟩ : ∃ j_ : Int, (mx (ji3) 0) = j_ := ⟨_, rfl⟩
  replace H : (if (ji4) = 0 then (some a0) else (if 0 ≤ ((ji4) - 1) then (if (Go.bits .and .i64 a0 (wrap64 ((wrap64 (2 ^ (ji4).toNat)) - 1))) > (wrap64 (2 ^ ((ji4) - 1).toNat)) then (some (wrap64 ((a0 / 2 ^ (ji4).toNat) + 1))) else (if (Go.bits .and .i64 a0 (wrap64 ((wrap64 (2 ^ (ji4).toNat)) - 1))) = (wrap64 (2 ^ ((ji4) - 1).toNat)) then (if a0 > 0 then (some (wrap64 ((a0 / 2 ^ (ji4).toNat) + 1))) else (some (a0 / 2 ^ (ji4).toNat))) else (some (a0 / 2 ^ (ji4).toNat)))) else (none))) = some r := by first | (rw [hji4] at H; exact H) | (simp only [hji4] at H ⊢; exact H)
  have hji4_ : (if (ji3) < 0 then 0 else (ji3)) = ji4 := hji4
  by_cases c5 : (ji4) = 0
  · rw [if_pos c5] at H
    have c5b0 : ((ji4) == 0) = true := beq_iff_eq.mpr c5
    have c5b1 : ((ji4) != 0) = false := bne_eq_false_iff_eq.mpr c5
    clear c5
    obtain rfl := Option.some.inj H
    go_enter Try.func13, Try.ntmps13
    go_wp2
    go_ret
    exact ⟨by first | rfl | (simp [errW_none, errW_some] <;> rfl) | (simp only [← hji3, ← hji4]; first | rfl | (simp [errW_none, errW_some] <;> rfl)) | (simp [*, errW_none, errW_some] <;> rfl), by repeat (first | (with_reducible first | exact HB.out | apply below_alloc | apply pw_below_drewN | apply below_drew1) | exact HB.out)⟩
  · rw [if_neg c5] at H
    have c5b0 : ((ji4) == 0) = false := beq_eq_false_iff_ne.mpr c5
    have c5b1 : ((ji4) != 0) = true := bne_iff_ne.mpr c5
    have hjie : ji4 = ji3 := by (unfold mx at hji4; split at hji4 <;> omega)
    have hjip : 0 ≤ ji3 := by (unfold mx at hji4; split at hji4 <;> omega)
    clear hji4 hji4_
    subst hjie
    obtain ⟨hji4, hji4_⟩ : True ∧ True := ⟨trivial, trivial⟩
    obtain ⟨ji6, hji6⟩ : ∃ j_ : Int, ((ji4) - 1) = j_ := ⟨_, rfl⟩
    replace H : (if 0 ≤ (ji6) then (if (Go.bits .and .i64 a0 (wrap64 ((wrap64 (2 ^ (ji4).toNat)) - 1))) > (wrap64 (2 ^ (ji6).toNat)) then (some (wrap64 ((a0 / 2 ^ (ji4).toNat) + 1))) else (if (Go.bits .and .i64 a0 (wrap64 ((wrap64 (2 ^ (ji4).toNat)) - 1))) = (wrap64 (2 ^ (ji6).toNat)) then (if a0 > 0 then (some (wrap64 ((a0 / 2 ^ (ji4).toNat) + 1))) else (some (a0 / 2 ^ (ji4).toNat))) else (some (a0 / 2 ^ (ji4).toNat)))) else (none)) = some r := by first | (rw [hji6] at H; exact H) | (simp only [hji6] at H ⊢; exact H)
    by_cases c7 : 0 ≤ (ji6)
    · rw [if_pos c7] at H
      have c7b0 := eq_true c7
      have c7b1 : decide (0 ≤ (ji6)) = true := decide_eq_true c7
      clear c7
      by_cases c8 : (Go.bits .and .i64 a0 (wrap64 ((wrap64 (2 ^ (ji4).toNat)) - 1))) > (wrap64 (2 ^ (ji6).toNat))
      · rw [if_pos c8] at H
        have c8b0 : decide ((wrap64 (2 ^ (ji6).toNat)) < (Go.bits .and .i64 a0 (wrap64 ((wrap64 (2 ^ (ji4).toNat)) - 1)))) = true := decide_eq_true c8
        clear c8
        obtain rfl := Option.some.inj H
        go_enter Try.func13, Try.ntmps13
        go_wp2
        go_ret
        exact ⟨by first | rfl | (simp [errW_none, errW_some] <;> rfl) | (simp only [← hji3, ← hji4, ← hji6]; first | rfl | (simp [errW_none, errW_some] <;> rfl)) | (simp [*, errW_none, errW_some] <;> rfl), by repeat (first | (with_reducible first | exact HB.out | apply below_alloc | apply pw_below_drewN | apply below_drew1) | exact HB.out)⟩
      · rw [if_neg c8] at H
        have c8b0 : decide ((wrap64 (2 ^ (ji6).toNat)) < (Go.bits .and .i64 a0 (wrap64 ((wrap64 (2 ^ (ji4).toNat)) - 1)))) = false := decide_eq_false c8
        clear c8
        by_cases c9 : (Go.bits .and .i64 a0 (wrap64 ((wrap64 (2 ^ (ji4).toNat)) - 1))) = (wrap64 (2 ^ (ji6).toNat))
        · rw [if_pos c9] at H
          have c9b0 : ((Go.bits .and .i64 a0 (wrap64 ((wrap64 (2 ^ (ji4).toNat)) - 1))) == (wrap64 (2 ^ (ji6).toNat))) = true := beq_iff_eq.mpr c9
          have c9b1 : ((Go.bits .and .i64 a0 (wrap64 ((wrap64 (2 ^ (ji4).toNat)) - 1))) != (wrap64 (2 ^ (ji6).toNat))) = false := bne_eq_false_iff_eq.mpr c9
          clear c9
          by_cases c10 : a0 > 0
          · rw [if_pos c10] at H
            have c10b0 : decide (0 < a0) = true := decide_eq_true c10
            clear c10
            obtain rfl := Option.some.inj H
            go_enter Try.func13, Try.ntmps13
            go_wp2
            go_ret
            exact ⟨by first | rfl | (simp [errW_none, errW_some] <;> rfl) | (simp only [← hji3, ← hji4, ← hji6]; first | rfl | (simp [errW_none, errW_some] <;> rfl)) | (simp [*, errW_none, errW_some] <;> rfl), by repeat (first | (with_reducible first | exact HB.out | apply below_alloc | apply pw_below_drewN | apply below_drew1) | exact HB.out)⟩
          · rw [if_neg c10] at H
            have c10b0 : decide (0 < a0) = false := decide_eq_false c10
            clear c10
            obtain rfl := Option.some.inj H
            go_enter Try.func13, Try.ntmps13
            go_wp2
            go_ret
            exact ⟨by first | rfl | (simp [errW_none, errW_some] <;> rfl) | (simp only [← hji3, ← hji4, ← hji6]; first | rfl | (simp [errW_none, errW_some] <;> rfl)) | (simp [*, errW_none, errW_some] <;> rfl), by repeat (first | (with_reducible first | exact HB.out | apply below_alloc | apply pw_below_drewN | apply below_drew1) | exact HB.out)⟩
        · rw [if_neg c9] at H
          have c9b0 : ((Go.bits .and .i64 a0 (wrap64 ((wrap64 (2 ^ (ji4).toNat)) - 1))) == (wrap64 (2 ^ (ji6).toNat))) = false := beq_eq_false_iff_ne.mpr c9
          have c9b1 : ((Go.bits .and .i64 a0 (wrap64 ((wrap64 (2 ^ (ji4).toNat)) - 1))) != (wrap64 (2 ^ (ji6).toNat))) = true := bne_iff_ne.mpr c9
          obtain rfl := Option.some.inj H
          go_enter Try.func13, Try.ntmps13
          go_wp2
          go_ret
          exact ⟨by first | rfl | (simp [errW_none, errW_some] <;> rfl) | (simp only [← hji3, ← hji4, ← hji6]; first | rfl | (simp [errW_none, errW_some] <;> rfl)) | (simp [*, errW_none, errW_some] <;> rfl), by repeat (first | (with_reducible first | exact HB.out | apply below_alloc | apply pw_below_drewN | apply below_drew1) | exact HB.out)⟩
    · rw [if_neg c7] at H
      exact absurd H (by simp)

/-! ### aviaryref01_Shift: function 14 -/
def aviaryref01_Shift.j0 : Nat → Int → Int → Int → Option (Int)
  | 0, _, _, _ => none
  | k + 1, x0, x1, x5 => if 0 ≤ x1 then (if 0 ≤ (wrap64 (x1 - 1)) then (if (Int.tmod (shr .u64 x5 (wrap64 (x1 - 1))) 2) = 1 then (if x0 < 0 then (some (wrap64 (-(wrap64 (IntKind.u64.wrap ((shr .u64 x5 x1) + 1)))))) else (some (wrap64 (IntKind.u64.wrap ((shr .u64 x5 x1) + 1))))) else (if x0 < 0 then (some (wrap64 (-(wrap64 (shr .u64 x5 x1))))) else (some (wrap64 (shr .u64 x5 x1))))) else (none)) else (none)
def aviaryref01_Shift.f (k : Nat) (a0 : Int) (a1 : Int) : Option (Int) := if (mn 62 (mx 0 a1)) = 0 then (some a0) else (if a0 < 0 then (aviaryref01_Shift.j0 k a0 (mn 62 (mx 0 a1)) (IntKind.u64.wrap ((IntKind.u64.wrap (wrap64 (-(wrap64 (a0 + 1))))) + 1))) else (aviaryref01_Shift.j0 k a0 (mn 62 (mx 0 a1)) (IntKind.u64.wrap (a0))))
theorem aviaryref01_Shift.mono_l : ∀ k, (∀ y0 y1 y2, LeO (aviaryref01_Shift.j0 k y0 y1 y2) (aviaryref01_Shift.j0 (k + 1) y0 y1 y2))
  | 0 => fun _ _ _ r h => by simp [aviaryref01_Shift.j0] at h
  | k + 1 => by
    have ih0 := aviaryref01_Shift.mono_l k
    · intro y0 y1 y2
      unfold aviaryref01_Shift.j0
      repeat' first
      | (with_reducible exact ih0 _ _ _)
      | (with_reducible exact LeO.refl _)
      | (with_reducible exact LeO.none _)
      | (with_reducible refine LeO.ite ?_ ?_)
      | (with_reducible refine LeO.bind ?_ (fun _ => ?_))
      | exact ih0 _ _ _
      | exact LeO.none _
      | refine LeO.ite ?_ ?_
      | refine LeO.bind ?_ (fun _ => ?_)
theorem aviaryref01_Shift.mono : ∀ a0 a1 k, LeO (aviaryref01_Shift.f k a0 a1) (aviaryref01_Shift.f (k + 1) a0 a1) := by
  intro a0 a1 k
  have ih0 := aviaryref01_Shift.mono_l k
  unfold aviaryref01_Shift.f
  repeat' first
      | (with_reducible exact ih0 _ _ _)
      | (with_reducible exact LeO.refl _)
      | (with_reducible exact LeO.none _)
      | (with_reducible refine LeO.ite ?_ ?_)
      | (with_reducible refine LeO.bind ?_ (fun _ => ?_))
      | exact ih0 _ _ _
      | exact LeO.none _
      | refine LeO.ite ?_ ?_
      | refine LeO.bind ?_ (fun _ => ?_)
set_option maxHeartbeats 8000000 in
set_option maxRecDepth 100000 in
theorem aviaryref01_Shift.calls (k : Nat) (a0 : Int) (a1 : Int) (r : Int) (w : World) (h : aviaryref01_Shift.f k a0 a1 = some r) :
    Calls Try.prog 14 #[.int .i64 a0, .int .i64 a1] w fun e w' => e = .returned (.int .i64 r) ∧ Below w.heap.size w w' := by
  have HB := Aside0.mk (Below.refl w.heap.size w)
  have H : (if (mn 62 (mx 0 a1)) = 0 then (some a0) else (if a0 < 0 then (aviaryref01_Shift.j0 k a0 (mn 62 (mx 0 a1)) (IntKind.u64.wrap ((IntKind.u64.wrap (wrap64 (-(wrap64 (a0 + 1))))) + 1))) else (aviaryref01_Shift.j0 k a0 (mn 62 (mx 0 a1)) (IntKind.u64.wrap (a0))))) = some r := h
  clear h
  obtain ⟨ji3, hji3⟩ : ∃ j_ : Int, (mx 0 a1) = j_ := ⟨_, rfl⟩
  replace H : (if (mn 62 (ji3)) = 0 then (some a0) else (if a0 < 0 then (aviaryref01_Shift.j0 k a0 (mn 62 (ji3)) (IntKind.u64.wrap ((IntKind.u64.wrap (wrap64 (-(wrap64 (a0 + 1))))) + 1))) else (aviaryref01_Shift.j0 k a0 (mn 62 (ji3)) (IntKind.u64.wrap (a0))))) = some r := by first | (rw [hji3] at H; exact H) | (simp only [hji3] at H ⊢; exact H)
  (try (have hji3l : 0 ≤ ji3 := by (rw [← hji3]; unfold mx; (repeat' split) <;> omega)))
  (try (have hji3m : 0 ≤ ji3 := by omega))
  have hji3_ : (if 0 < a1 then a1 else 0) = ji3 := hji3
  obtain ⟨ji4, hji4⟩ : ∃ j_ : Int, (mn 62 (ji3)) = j_ := ⟨_, rfl⟩
  replace H : (if (ji4) = 0 then (some a0) else (if a0 < 0 then (aviaryref01_Shift.j0 k a0 ji4 (IntKind.u64.wrap ((IntKind.u64.wrap (wrap64 (-(wrap64 (a0 + 1))))) + 1))) else (aviaryref01_Shift.j0 k a0 ji4 (IntKind.u64.wrap (a0))))) = some r := by first | (rw [hji4] at H; exact H) | (simp only [hji4] at H ⊢; exact H)
  have hji4_ : (if (ji3) < 62 then (ji3) else 62) = ji4 := hji4
  by_cases c5 : (ji4) = 0
  · rw [if_pos c5] at H
    have c5b0 : ((ji4) == 0) = true := beq_iff_eq.mpr c5
    have c5b1 : ((ji4) != 0) = false := bne_eq_false_iff_eq.mpr c5
    clear c5
    obtain rfl := Option.some.inj H
    go_enter Try.func14, Try.ntmps14
    go_wp2
    go_ret
    exact ⟨by first | rfl | (simp [errW_none, errW_some] <;> rfl) | (simp only [← hji3, ← hji4]; first | rfl | (simp [errW_none, errW_some] <;> rfl)) | (simp [*, errW_none, errW_some] <;> rfl), by repeat (first | (with_reducible first | exact HB.out | apply below_alloc | apply pw_below_drewN | apply below_drew1) | exact HB.out)⟩
  · rw [if_neg c5] at H
    have c5b0 : ((ji4) == 0) = false := beq_eq_false_iff_ne.mpr c5
    have c5b1 : ((ji4) != 0) = true := bne_iff_ne.mpr c5
    have HC6 := Aside0.mk H
    clear H
    go_enter Try.func14, Try.ntmps14
    go_upto_if 16 with (fail)
    go_cut [5] (fun v5 wc => ∃ (kq : Nat) (x5_5 : Int), v5 = .int .u64 x5_5 ∧ Aside0 (aviaryref01_Shift.j0 kq a0 ji4 x5_5 = some r) ∧ Aside0 (kq ≤ k) ∧ Aside0 (Below w.heap.size w wc))
    case first =>
      have H := HC6.out
      clear HC6
      by_cases c7 : a0 < 0
      · rw [if_pos c7] at H
        have c7b0 : decide (a0 < 0) = true := decide_eq_true c7
        clear c7
        (first | rw [c7b0] | (simp only [i64_w, i32_w]; rw [c7b0]) | skip)
        have H' := Aside0.mk H
        clear H
        go_wp2
        go_meet
        case rel => exact ⟨_, (IntKind.u64.wrap ((IntKind.u64.wrap (wrap64 (-(wrap64 (a0 + 1))))) + 1)), (by first | rfl | (simp; done) | (simp [*]; done)), H', ⟨by first | omega | exact Nat.le_refl _⟩, ⟨by repeat (first | (with_reducible first | exact HB.out | apply below_alloc | apply pw_below_drewN | apply below_drew1) | exact HB.out)⟩⟩
      · rw [if_neg c7] at H
        have c7b0 : decide (a0 < 0) = false := decide_eq_false c7
        clear c7
        (first | rw [c7b0] | (simp only [i64_w, i32_w]; rw [c7b0]) | skip)
        have H' := Aside0.mk H
        clear H
        go_wp2
        go_meet
        case rel => exact ⟨_, (IntKind.u64.wrap (a0)), (by first | rfl | (simp; done) | (simp [*]; done)), H', ⟨by first | omega | exact Nat.le_refl _⟩, ⟨by repeat (first | (with_reducible first | exact HB.out | apply below_alloc | apply pw_below_drewN | apply below_drew1) | exact HB.out)⟩⟩
    case rest =>
      clear HC6
      try clear c1
      try clear p2
      try clear c5
      try clear c5b0
      try clear c5b1
      try clear p6
      try clear c7
      try clear c7b0
      obtain ⟨kq, x5_5, rfl, HA, HJ5, HB⟩ := hcut
      cases kq with
      | zero => exact absurd HA.out (by simp [aviaryref01_Shift.j0])
      | succ kj5 =>
        have H := HA.out
        clear HA
        simp only [aviaryref01_Shift.j0] at H
        by_cases c8 : 0 ≤ ji4
        · rw [if_pos c8] at H
          have c8b0 := eq_true c8
          have c8b1 : decide (0 ≤ ji4) = true := decide_eq_true c8
          clear c8
          obtain ⟨ji9, hji9⟩ : ∃ j_ : Int, (shr .u64 x5_5 ji4) = j_ := ⟨_, rfl⟩
          replace H : (if 0 ≤ (wrap64 (ji4 - 1)) then (if (Int.tmod (shr .u64 x5_5 (wrap64 (ji4 - 1))) 2) = 1 then (if a0 < 0 then (some (wrap64 (-(wrap64 (IntKind.u64.wrap ((ji9) + 1)))))) else (some (wrap64 (IntKind.u64.wrap ((ji9) + 1))))) else (if a0 < 0 then (some (wrap64 (-(wrap64 (ji9))))) else (some (wrap64 (ji9))))) else (none)) = some r := by first | (rw [hji9] at H; exact H) | (simp only [hji9] at H ⊢; exact H)
          have hji9_ : (x5_5 / 2 ^ min ji4.toNat 64) = ji9 := hji9
          have hji9z : ji4 ≤ 64 → (x5_5 / 2 ^ ji4.toNat) = ji9 := shr_small hji9
          have hji9y : (x5_5 / 2 ^ ji4.toNat) = ji9 := hji9z (by (first | omega | (unfold mn at hji4; split at hji4 <;> omega) | (unfold wrap64 at hji4; unfold mn at hji4; split at hji4 <;> omega)))
          obtain ⟨ji10, hji10⟩ : ∃ j_ : Int, (wrap64 (ji4 - 1)) = j_ := ⟨_, rfl⟩
          replace H : (if 0 ≤ (ji10) then (if (Int.tmod (shr .u64 x5_5 (ji10)) 2) = 1 then (if a0 < 0 then (some (wrap64 (-(wrap64 (IntKind.u64.wrap ((ji9) + 1)))))) else (some (wrap64 (IntKind.u64.wrap ((ji9) + 1))))) else (if a0 < 0 then (some (wrap64 (-(wrap64 (ji9))))) else (some (wrap64 (ji9))))) else (none)) = some r := by first | (rw [hji10] at H; exact H) | (simp only [hji10] at H ⊢; exact H)
          have hji10w : (IntKind.i64.wrap (ji4 - 1)) = ji10 := (i64_w _).trans hji10
          by_cases c11 : 0 ≤ (ji10)
          · rw [if_pos c11] at H
            have c11b0 := eq_true c11
            have c11b1 : decide (0 ≤ (ji10)) = true := decide_eq_true c11
            clear c11
            obtain ⟨ji12, hji12⟩ : ∃ j_ : Int, (shr .u64 x5_5 (ji10)) = j_ := ⟨_, rfl⟩
            replace H : (if (Int.tmod (ji12) 2) = 1 then (if a0 < 0 then (some (wrap64 (-(wrap64 (IntKind.u64.wrap ((ji9) + 1)))))) else (some (wrap64 (IntKind.u64.wrap ((ji9) + 1))))) else (if a0 < 0 then (some (wrap64 (-(wrap64 (ji9))))) else (some (wrap64 (ji9))))) = some r := by first | (rw [hji12] at H; exact H) | (simp only [hji12] at H ⊢; exact H)
            have hji12_ : (x5_5 / 2 ^ min (ji10).toNat 64) = ji12 := hji12
            have hji12z : (ji10) ≤ 64 → (x5_5 / 2 ^ (ji10).toNat) = ji12 := shr_small hji12
            have hji12y : (x5_5 / 2 ^ (ji10).toNat) = ji12 := hji12z (by (first | omega | (unfold mn at hji4; split at hji4 <;> omega) | (unfold wrap64 at hji10; unfold mn at hji4; split at hji4 <;> omega)))
            by_cases c13 : (Int.tmod (ji12) 2) = 1
            · rw [if_pos c13] at H
              have c13b0 : ((Int.tmod (ji12) 2) == 1) = true := beq_iff_eq.mpr c13
              have c13b1 : ((Int.tmod (ji12) 2) != 1) = false := bne_eq_false_iff_eq.mpr c13
              clear c13
              by_cases c14 : a0 < 0
              · rw [if_pos c14] at H
                have c14b0 : decide (a0 < 0) = true := decide_eq_true c14
                clear c14
                obtain rfl := Option.some.inj H
                go_wp2
                go_ret
                exact ⟨by first | rfl | (simp [errW_none, errW_some] <;> rfl) | (simp only [← hji3, ← hji4, ← hji9, ← hji10, ← hji12]; first | rfl | (simp [errW_none, errW_some] <;> rfl)) | (simp [*, errW_none, errW_some] <;> rfl), by repeat (first | (with_reducible first | exact HB.out | apply below_alloc | apply pw_below_drewN | apply below_drew1) | exact HB.out)⟩
              · rw [if_neg c14] at H
                have c14b0 : decide (a0 < 0) = false := decide_eq_false c14
                clear c14
                obtain rfl := Option.some.inj H
                go_wp2
                go_ret
                exact ⟨by first | rfl | (simp [errW_none, errW_some] <;> rfl) | (simp only [← hji3, ← hji4, ← hji9, ← hji10, ← hji12]; first | rfl | (simp [errW_none, errW_some] <;> rfl)) | (simp [*, errW_none, errW_some] <;> rfl), by repeat (first | (with_reducible first | exact HB.out | apply below_alloc | apply pw_below_drewN | apply below_drew1) | exact HB.out)⟩
            · rw [if_neg c13] at H
              have c13b0 : ((Int.tmod (ji12) 2) == 1) = false := beq_eq_false_iff_ne.mpr c13
              have c13b1 : ((Int.tmod (ji12) 2) != 1) = true := bne_iff_ne.mpr c13
              by_cases c15 : a0 < 0
              · rw [if_pos c15] at H
                have c15b0 : decide (a0 < 0) = true := decide_eq_true c15
                clear c15
                obtain rfl := Option.some.inj H
                go_wp2
                go_ret
                exact ⟨by first | rfl | (simp [errW_none, errW_some] <;> rfl) | (simp only [← hji3, ← hji4, ← hji9, ← hji10, ← hji12]; first | rfl | (simp [errW_none, errW_some] <;> rfl)) | (simp [*, errW_none, errW_some] <;> rfl), by repeat (first | (with_reducible first | exact HB.out | apply below_alloc | apply pw_below_drewN | apply below_drew1) | exact HB.out)⟩
              · rw [if_neg c15] at H
                have c15b0 : decide (a0 < 0) = false := decide_eq_false c15
                clear c15
                obtain rfl := Option.some.inj H
                go_wp2
                go_ret
                exact ⟨by first | rfl | (simp [errW_none, errW_some] <;> rfl) | (simp only [← hji3, ← hji4, ← hji9, ← hji10, ← hji12]; first | rfl | (simp [errW_none, errW_some] <;> rfl)) | (simp [*, errW_none, errW_some] <;> rfl), by repeat (first | (with_reducible first | exact HB.out | apply below_alloc | apply pw_below_drewN | apply below_drew1) | exact HB.out)⟩
          · rw [if_neg c11] at H
            exact absurd H (by simp)
        · rw [if_neg c8] at H
          exact absurd H (by simp)

/-! ### aviarylaw01_SatShifts: function 4 -/
def aviarylaw01_SatShifts.f (k : Nat) (a0 : Int) (a1 : Int) : Option (Bool) := (sat_Shift.f a0 a1).bind fun t101 => ((aviaryref01_Shift.f k a0 a1).bind fun t102 => (some (t101 == t102)))
theorem aviarylaw01_SatShifts.mono : ∀ a0 a1 k, LeO (aviarylaw01_SatShifts.f k a0 a1) (aviarylaw01_SatShifts.f (k + 1) a0 a1) := by
  intro a0 a1 k
  unfold aviarylaw01_SatShifts.f
  repeat' first
      | (with_reducible exact aviaryref01_Shift.mono _ _ _)
      | (with_reducible exact LeO.refl _)
      | (with_reducible exact LeO.none _)
      | (with_reducible refine LeO.ite ?_ ?_)
      | (with_reducible refine LeO.bind ?_ (fun _ => ?_))
      | exact aviaryref01_Shift.mono _ _ _
      | exact LeO.none _
      | refine LeO.ite ?_ ?_
      | refine LeO.bind ?_ (fun _ => ?_)
set_option maxHeartbeats 8000000 in
set_option maxRecDepth 100000 in
theorem aviarylaw01_SatShifts.calls (k : Nat) (a0 : Int) (a1 : Int) (r : Bool) (w : World) (h : aviarylaw01_SatShifts.f k a0 a1 = some r) :
    Calls Try.prog 4 #[.int .i64 a0, .int .i64 a1] w fun e w' => e = .returned (.bool r) ∧ Below w.heap.size w w' := by
  have HB := Aside0.mk (Below.refl w.heap.size w)
  have H : ((sat_Shift.f a0 a1).bind fun t101 => ((aviaryref01_Shift.f k a0 a1).bind fun t102 => (some (t101 == t102)))) = some r := h
  clear h
  replace H := Option.bind_eq_some_iff.mp H
  obtain ⟨t101, A30, H⟩ := H
  replace H : ((aviaryref01_Shift.f k a0 a1).bind fun t102 => (some (t101 == t102))) = some r := H
  have A3 := Aside0.mk A30
  clear A30
  replace H := Option.bind_eq_some_iff.mp H
  obtain ⟨t102, A40, H⟩ := H
  replace H : (some (t101 == t102)) = some r := H
  have A4 := Aside0.mk A40
  clear A40
  obtain rfl := Option.some.inj H
  go_enter Try.func4, Try.ntmps4
  go_wp2_with (first | ((with_reducible refine gate_callee (f := 13) rfl ?_); refine goesL_ (some 7) rfl rfl Try.func13 (by kernel_rfl) rfl #[.int .i64 a0, .int .i64 a1] rfl (by (try simp only [List.map_toArray, List.map_cons, List.map_nil]); first | done | rfl | (simp only [List.length_drop, List.length_take]; rfl)) ?_; (with_reducible refine (sat_Shift.calls a0 a1 t101 _ A3.out).mono ?_); rintro e w5 ⟨rfl, hb⟩; refine ⟨_, rfl, ?_⟩; have n0_ := Aside0.mk (below_step (by repeat (first | (with_reducible first | exact HB.out | apply below_alloc | apply pw_below_drewN | apply below_drew1) | exact HB.out)) hb); clear HB; have HB := n0_; clear n0_; (try clear hb); (try clear hb2); (try clear hk); (try clear hi)) | ((with_reducible refine gate_callee (f := 14) rfl ?_); refine goesL_ (some 10) rfl rfl Try.func14 (by kernel_rfl) rfl #[.int .i64 a0, .int .i64 a1] rfl (by (try simp only [List.map_toArray, List.map_cons, List.map_nil]); first | done | rfl | (simp only [List.length_drop, List.length_take]; rfl)) ?_; (with_reducible refine (aviaryref01_Shift.calls k a0 a1 t102 _ A4.out).mono ?_); rintro e w6 ⟨rfl, hb⟩; refine ⟨_, rfl, ?_⟩; have n0_ := Aside0.mk (below_step (by repeat (first | (with_reducible first | exact HB.out | apply below_alloc | apply pw_below_drewN | apply below_drew1) | exact HB.out)) hb); clear HB; have HB := n0_; clear n0_; (try clear hb); (try clear hb2); (try clear hk); (try clear hi)))
  go_ret
  exact ⟨by first | rfl | (simp [errW_none, errW_some] <;> rfl) | (simp [*, errW_none, errW_some] <;> rfl), by repeat (first | (with_reducible first | exact HB.out | apply below_alloc | apply pw_below_drewN | apply below_drew1) | exact HB.out)⟩

/-- THE ONE PURE STATEMENT of aviarylaw01_SatShifts: yours. -/
def aviarylaw01_SatShifts.Pure : Prop := ∀ (a0 : Int) (a1 : Int), (Lit.int .i64 a0).wf = true → (Lit.int .i64 a1).wf = true → ∃ k, aviarylaw01_SatShifts.f k a0 a1 = some true
theorem aviarylaw01_SatShifts.walk (P : aviarylaw01_SatShifts.Pure) (a0 : Int) (a1 : Int) (w : World) (w0 : (Lit.int .i64 a0).wf = true) (w1 : (Lit.int .i64 a1).wf = true) :
    Calls Try.prog 4 #[.int .i64 a0, .int .i64 a1] w fun e w' => e = .returned (.bool true) ∧ Below w.heap.size w w' := by
  obtain ⟨k, h⟩ := P a0 a1 w0 w1
  refine (aviarylaw01_SatShifts.calls k a0 a1 true w h).mono ?_
  rintro e w' ⟨rfl, hd⟩
  exact ⟨rfl, hd⟩

end Go.Proofs.Ytogmdelhobkniaa.PSatShifts
