-- A text of the session: laid by a program of its own (wip/tools/mkprint.py) over the translation; Lean checks it.
import Derived.Test.YtfcchiocjefeeaaPCurveRootsx0
import Derived.Test.YtfcchiocjefeeaaPCurveRootsx1
namespace Go.Proofs.Ytfcchiocjefeeaa.PCurveRoots
open Go.RowKit Go.Proofs.YtfcchiocjefeeaaW.PrintWords Go.Proofs.YtfcchiocjefeeaaW.PrintLast Go.Proofs.YtfcchiocjefeeaaW.PrintMore
attribute [local go_sem] max2_int min2_int max_two min_two max_three min_three max_four min_four   -- for this text's walks alone
set_option linter.unusedVariables false
set_option linter.unusedSimpArgs false

/-! ### aviarylaw03_CurveRoots: function 7 -/
def aviarylaw03_CurveRoots.f (k : Nat) (a0 : Int) : Option (Bool) := (aviarylaw03_works.f k).bind fun t129 => (if t129 = true then ((curve_Rsqrt.f k (mn 2147483647 (mx 1 a0))).bind fun t130 => (if t130 < 0 then (some false) else (if t130 > 16777216 then (some false) else (if (mn 2147483647 (mx 1 a0)) = 0 then (none) else (if (wrap64 (t130 * t130)) ≤ ((281474976710656 : Int) / (mn 2147483647 (mx 1 a0))) then (some (decide ((wrap64 ((wrap64 (t130 + 1)) * (wrap64 (t130 + 1)))) > ((281474976710656 : Int) / (mn 2147483647 (mx 1 a0)))))) else (some false)))))) else (some false))
theorem aviarylaw03_CurveRoots.mono : ∀ a0 k, LeO (aviarylaw03_CurveRoots.f k a0) (aviarylaw03_CurveRoots.f (k + 1) a0) := by
  intro a0 k
  unfold aviarylaw03_CurveRoots.f
  repeat' first
      | (with_reducible exact aviarylaw03_works.mono _)
      | (with_reducible exact curve_Rsqrt.mono _ _)
      | (with_reducible exact LeO.refl _)
      | (with_reducible exact LeO.none _)
      | (with_reducible refine LeO.ite ?_ ?_)
      | (with_reducible refine LeO.bind ?_ (fun _ => ?_))
      | exact aviarylaw03_works.mono _
      | exact curve_Rsqrt.mono _ _
      | exact LeO.none _
      | refine LeO.ite ?_ ?_
      | refine LeO.bind ?_ (fun _ => ?_)
set_option maxHeartbeats 8000000 in
set_option maxRecDepth 100000 in
theorem aviarylaw03_CurveRoots.calls (k : Nat) (a0 : Int) (r : Bool) (w : World) (h : aviarylaw03_CurveRoots.f k a0 = some r) :
    Calls Try.prog 7 #[.int .i64 a0] w fun e w' => e = .returned (.bool r) ∧ Below w.heap.size w w' := by
  have HB := Aside0.mk (Below.refl w.heap.size w)
  have H : ((aviarylaw03_works.f k).bind fun t129 => (if t129 = true then ((curve_Rsqrt.f k (mn 2147483647 (mx 1 a0))).bind fun t130 => (if t130 < 0 then (some false) else (if t130 > 16777216 then (some false) else (if (mn 2147483647 (mx 1 a0)) = 0 then (none) else (if (wrap64 (t130 * t130)) ≤ ((281474976710656 : Int) / (mn 2147483647 (mx 1 a0))) then (some (decide ((wrap64 ((wrap64 (t130 + 1)) * (wrap64 (t130 + 1)))) > ((281474976710656 : Int) / (mn 2147483647 (mx 1 a0)))))) else (some false)))))) else (some false))) = some r := h
  clear h
  replace H := Option.bind_eq_some_iff.mp H
  obtain ⟨t129, A20, H⟩ := H
  replace H : (if t129 = true then ((curve_Rsqrt.f k (mn 2147483647 (mx 1 a0))).bind fun t130 => (if t130 < 0 then (some false) else (if t130 > 16777216 then (some false) else (if (mn 2147483647 (mx 1 a0)) = 0 then (none) else (if (wrap64 (t130 * t130)) ≤ ((281474976710656 : Int) / (mn 2147483647 (mx 1 a0))) then (some (decide ((wrap64 ((wrap64 (t130 + 1)) * (wrap64 (t130 + 1)))) > ((281474976710656 : Int) / (mn 2147483647 (mx 1 a0)))))) else (some false)))))) else (some false)) = some r := H
  have A2 := Aside0.mk A20
  clear A20
  by_cases c3 : t129 = true
  · subst c3
    have H1 : ((curve_Rsqrt.f k (mn 2147483647 (mx 1 a0))).bind fun t130 => (if t130 < 0 then (some false) else (if t130 > 16777216 then (some false) else (if (mn 2147483647 (mx 1 a0)) = 0 then (none) else (if (wrap64 (t130 * t130)) ≤ ((281474976710656 : Int) / (mn 2147483647 (mx 1 a0))) then (some (decide ((wrap64 ((wrap64 (t130 + 1)) * (wrap64 (t130 + 1)))) > ((281474976710656 : Int) / (mn 2147483647 (mx 1 a0)))))) else (some false)))))) = some r := by rw [if_pos rfl] at H; exact H
    clear H
    have H := H1
    clear H1
    obtain ⟨ji4, hji4⟩ : ∃ j_ : Int, (mx 1 a0) = j_ := ⟨_, rfl⟩
    replace H : ((curve_Rsqrt.f k (mn 2147483647 (ji4))).bind fun t130 => (if t130 < 0 then (some false) else (if t130 > 16777216 then (some false) else (if (mn 2147483647 (ji4)) = 0 then (none) else (if (wrap64 (t130 * t130)) ≤ ((281474976710656 : Int) / (mn 2147483647 (ji4))) then (some (decide ((wrap64 ((wrap64 (t130 + 1)) * (wrap64 (t130 + 1)))) > ((281474976710656 : Int) / (mn 2147483647 (ji4)))))) else (some false)))))) = some r := by first | (rw [hji4] at H; exact H) | (simp only [hji4] at H ⊢; exact H)
    (try rw [hji4] at A2)
    (try (have hji4l : 1 ≤ ji4 := by (rw [← hji4]; unfold mx; (repeat' split) <;> omega)))
    (try (have hji4m : 0 ≤ ji4 := by omega))
    have hji4_ : (if 1 < a0 then a0 else 1) = ji4 := hji4
    obtain ⟨ji5, hji5⟩ : ∃ j_ : Int, (mn 2147483647 (ji4)) = j_ := ⟨_, rfl⟩
    replace H : ((curve_Rsqrt.f k (ji5)).bind fun t130 => (if t130 < 0 then (some false) else (if t130 > 16777216 then (some false) else (if (ji5) = 0 then (none) else (if (wrap64 (t130 * t130)) ≤ ((281474976710656 : Int) / (ji5)) then (some (decide ((wrap64 ((wrap64 (t130 + 1)) * (wrap64 (t130 + 1)))) > ((281474976710656 : Int) / (ji5))))) else (some false)))))) = some r := by first | (rw [hji5] at H; exact H) | (simp only [hji5] at H ⊢; exact H)
    (try rw [hji5] at A2)
    have hji5_ : (if (ji4) < 2147483647 then (ji4) else 2147483647) = ji5 := hji5
    replace H := Option.bind_eq_some_iff.mp H
    obtain ⟨t130, A60, H⟩ := H
    replace H : (if t130 < 0 then (some false) else (if t130 > 16777216 then (some false) else (if (ji5) = 0 then (none) else (if (wrap64 (t130 * t130)) ≤ ((281474976710656 : Int) / (ji5)) then (some (decide ((wrap64 ((wrap64 (t130 + 1)) * (wrap64 (t130 + 1)))) > ((281474976710656 : Int) / (ji5))))) else (some false))))) = some r := H
    have A6 := Aside0.mk A60
    clear A60
    by_cases c7 : t130 < 0
    · rw [if_pos c7] at H
      have c7b0 : decide (t130 < 0) = true := decide_eq_true c7
      clear c7
      obtain rfl := Option.some.inj H
      go_enter Try.func7, Try.ntmps7
      go_wp2_with (first | ((with_reducible refine gate_callee (f := 22) rfl ?_); refine goesL_ (some 4) rfl rfl Try.func22 (by kernel_rfl) rfl #[] rfl (by (try simp only [List.map_toArray, List.map_cons, List.map_nil]); first | done | rfl | (simp only [List.length_drop, List.length_take]; rfl)) ?_; (with_reducible refine (aviarylaw03_works.calls k  true _ A2.out).mono ?_); rintro e w8 ⟨rfl, hb⟩; refine ⟨_, rfl, ?_⟩; have n0_ := Aside0.mk (below_step (by repeat (first | (with_reducible first | exact HB.out | apply below_alloc | apply pw_below_drewN | apply below_drew1) | exact HB.out)) hb); clear HB; have HB := n0_; clear n0_; (try clear hb); (try clear hb2); (try clear hk); (try clear hi)) | ((with_reducible refine gate_callee (f := 12) rfl ?_); refine goesL_ (some 10) rfl rfl Try.func12 (by kernel_rfl) rfl #[.int .i64 ji5] rfl (by (try simp only [List.map_toArray, List.map_cons, List.map_nil]); first | done | (simp only [hji5]; rfl) | rfl | (simp only [List.length_drop, List.length_take]; rfl)) ?_; (with_reducible refine (curve_Rsqrt.calls k ji5 t130 _ A6.out).mono ?_); rintro e w9 ⟨rfl, hb⟩; refine ⟨_, rfl, ?_⟩; have n0_ := Aside0.mk (below_step (by repeat (first | (with_reducible first | exact HB.out | apply below_alloc | apply pw_below_drewN | apply below_drew1) | exact HB.out)) hb); clear HB; have HB := n0_; clear n0_; (try clear hb); (try clear hb2); (try clear hk); (try clear hi)))
      go_ret
      exact ⟨by first | rfl | (simp [errW_none, errW_some] <;> rfl) | (simp only [← hji4, ← hji5]; first | rfl | (simp [errW_none, errW_some] <;> rfl)) | (simp [*, errW_none, errW_some] <;> rfl), by repeat (first | (with_reducible first | exact HB.out | apply below_alloc | apply pw_below_drewN | apply below_drew1) | exact HB.out)⟩
    · rw [if_neg c7] at H
      have c7b0 : decide (t130 < 0) = false := decide_eq_false c7
      clear c7
      by_cases c10 : t130 > 16777216
      · rw [if_pos c10] at H
        have c10b0 : decide (16777216 < t130) = true := decide_eq_true c10
        clear c10
        obtain rfl := Option.some.inj H
        go_enter Try.func7, Try.ntmps7
        go_wp2_with (first | ((with_reducible refine gate_callee (f := 22) rfl ?_); refine goesL_ (some 4) rfl rfl Try.func22 (by kernel_rfl) rfl #[] rfl (by (try simp only [List.map_toArray, List.map_cons, List.map_nil]); first | done | rfl | (simp only [List.length_drop, List.length_take]; rfl)) ?_; (with_reducible refine (aviarylaw03_works.calls k  true _ A2.out).mono ?_); rintro e w11 ⟨rfl, hb⟩; refine ⟨_, rfl, ?_⟩; have n0_ := Aside0.mk (below_step (by repeat (first | (with_reducible first | exact HB.out | apply below_alloc | apply pw_below_drewN | apply below_drew1) | exact HB.out)) hb); clear HB; have HB := n0_; clear n0_; (try clear hb); (try clear hb2); (try clear hk); (try clear hi)) | ((with_reducible refine gate_callee (f := 12) rfl ?_); refine goesL_ (some 10) rfl rfl Try.func12 (by kernel_rfl) rfl #[.int .i64 ji5] rfl (by (try simp only [List.map_toArray, List.map_cons, List.map_nil]); first | done | (simp only [hji5]; rfl) | rfl | (simp only [List.length_drop, List.length_take]; rfl)) ?_; (with_reducible refine (curve_Rsqrt.calls k ji5 t130 _ A6.out).mono ?_); rintro e w12 ⟨rfl, hb⟩; refine ⟨_, rfl, ?_⟩; have n0_ := Aside0.mk (below_step (by repeat (first | (with_reducible first | exact HB.out | apply below_alloc | apply pw_below_drewN | apply below_drew1) | exact HB.out)) hb); clear HB; have HB := n0_; clear n0_; (try clear hb); (try clear hb2); (try clear hk); (try clear hi)))
        go_ret
        exact ⟨by first | rfl | (simp [errW_none, errW_some] <;> rfl) | (simp only [← hji4, ← hji5]; first | rfl | (simp [errW_none, errW_some] <;> rfl)) | (simp [*, errW_none, errW_some] <;> rfl), by repeat (first | (with_reducible first | exact HB.out | apply below_alloc | apply pw_below_drewN | apply below_drew1) | exact HB.out)⟩
      · rw [if_neg c10] at H
        have c10b0 : decide (16777216 < t130) = false := decide_eq_false c10
        clear c10
        by_cases c13 : (ji5) = 0
        · rw [if_pos c13] at H
          exact absurd H (by simp)
        · rw [if_neg c13] at H
          have c13b0 : ((ji5) == 0) = false := beq_eq_false_iff_ne.mpr c13
          have c13b1 : ((ji5) != 0) = true := bne_iff_ne.mpr c13
          by_cases c14 : (wrap64 (t130 * t130)) ≤ ((281474976710656 : Int) / (ji5))
          · rw [if_pos c14] at H
            have c14b0 : decide ((wrap64 (t130 * t130)) ≤ ((281474976710656 : Int) / (ji5))) = true := decide_eq_true c14
            clear c14
            obtain rfl := Option.some.inj H
            go_enter Try.func7, Try.ntmps7
            go_wp2_with (first | ((with_reducible refine gate_callee (f := 22) rfl ?_); refine goesL_ (some 4) rfl rfl Try.func22 (by kernel_rfl) rfl #[] rfl (by (try simp only [List.map_toArray, List.map_cons, List.map_nil]); first | done | rfl | (simp only [List.length_drop, List.length_take]; rfl)) ?_; (with_reducible refine (aviarylaw03_works.calls k  true _ A2.out).mono ?_); rintro e w15 ⟨rfl, hb⟩; refine ⟨_, rfl, ?_⟩; have n0_ := Aside0.mk (below_step (by repeat (first | (with_reducible first | exact HB.out | apply below_alloc | apply pw_below_drewN | apply below_drew1) | exact HB.out)) hb); clear HB; have HB := n0_; clear n0_; (try clear hb); (try clear hb2); (try clear hk); (try clear hi)) | ((with_reducible refine gate_callee (f := 12) rfl ?_); refine goesL_ (some 10) rfl rfl Try.func12 (by kernel_rfl) rfl #[.int .i64 ji5] rfl (by (try simp only [List.map_toArray, List.map_cons, List.map_nil]); first | done | (simp only [hji5]; rfl) | rfl | (simp only [List.length_drop, List.length_take]; rfl)) ?_; (with_reducible refine (curve_Rsqrt.calls k ji5 t130 _ A6.out).mono ?_); rintro e w16 ⟨rfl, hb⟩; refine ⟨_, rfl, ?_⟩; have n0_ := Aside0.mk (below_step (by repeat (first | (with_reducible first | exact HB.out | apply below_alloc | apply pw_below_drewN | apply below_drew1) | exact HB.out)) hb); clear HB; have HB := n0_; clear n0_; (try clear hb); (try clear hb2); (try clear hk); (try clear hi)))
            go_ret
            exact ⟨by first | rfl | (simp [errW_none, errW_some] <;> rfl) | (simp only [← hji4, ← hji5]; first | rfl | (simp [errW_none, errW_some] <;> rfl)) | (simp [*, errW_none, errW_some] <;> rfl), by repeat (first | (with_reducible first | exact HB.out | apply below_alloc | apply pw_below_drewN | apply below_drew1) | exact HB.out)⟩
          · rw [if_neg c14] at H
            have c14b0 : decide ((wrap64 (t130 * t130)) ≤ ((281474976710656 : Int) / (ji5))) = false := decide_eq_false c14
            clear c14
            obtain rfl := Option.some.inj H
            go_enter Try.func7, Try.ntmps7
            go_wp2_with (first | ((with_reducible refine gate_callee (f := 22) rfl ?_); refine goesL_ (some 4) rfl rfl Try.func22 (by kernel_rfl) rfl #[] rfl (by (try simp only [List.map_toArray, List.map_cons, List.map_nil]); first | done | rfl | (simp only [List.length_drop, List.length_take]; rfl)) ?_; (with_reducible refine (aviarylaw03_works.calls k  true _ A2.out).mono ?_); rintro e w17 ⟨rfl, hb⟩; refine ⟨_, rfl, ?_⟩; have n0_ := Aside0.mk (below_step (by repeat (first | (with_reducible first | exact HB.out | apply below_alloc | apply pw_below_drewN | apply below_drew1) | exact HB.out)) hb); clear HB; have HB := n0_; clear n0_; (try clear hb); (try clear hb2); (try clear hk); (try clear hi)) | ((with_reducible refine gate_callee (f := 12) rfl ?_); refine goesL_ (some 10) rfl rfl Try.func12 (by kernel_rfl) rfl #[.int .i64 ji5] rfl (by (try simp only [List.map_toArray, List.map_cons, List.map_nil]); first | done | (simp only [hji5]; rfl) | rfl | (simp only [List.length_drop, List.length_take]; rfl)) ?_; (with_reducible refine (curve_Rsqrt.calls k ji5 t130 _ A6.out).mono ?_); rintro e w18 ⟨rfl, hb⟩; refine ⟨_, rfl, ?_⟩; have n0_ := Aside0.mk (below_step (by repeat (first | (with_reducible first | exact HB.out | apply below_alloc | apply pw_below_drewN | apply below_drew1) | exact HB.out)) hb); clear HB; have HB := n0_; clear n0_; (try clear hb); (try clear hb2); (try clear hk); (try clear hi)))
            go_ret
            exact ⟨by first | rfl | (simp [errW_none, errW_some] <;> rfl) | (simp only [← hji4, ← hji5]; first | rfl | (simp [errW_none, errW_some] <;> rfl)) | (simp [*, errW_none, errW_some] <;> rfl), by repeat (first | (with_reducible first | exact HB.out | apply below_alloc | apply pw_below_drewN | apply below_drew1) | exact HB.out)⟩
  · replace c3 := Bool.eq_false_iff.mpr c3
    subst c3
    have H1 : (some false) = some r := by rw [if_neg (show ¬ (false = true) by decide)] at H; exact H
    clear H
    have H := H1
    clear H1
    obtain rfl := Option.some.inj H
    go_enter Try.func7, Try.ntmps7
    go_wp2_with (first | ((with_reducible refine gate_callee (f := 22) rfl ?_); refine goesL_ (some 4) rfl rfl Try.func22 (by kernel_rfl) rfl #[] rfl (by (try simp only [List.map_toArray, List.map_cons, List.map_nil]); first | done | rfl | (simp only [List.length_drop, List.length_take]; rfl)) ?_; (with_reducible refine (aviarylaw03_works.calls k  false _ A2.out).mono ?_); rintro e w19 ⟨rfl, hb⟩; refine ⟨_, rfl, ?_⟩; have n0_ := Aside0.mk (below_step (by repeat (first | (with_reducible first | exact HB.out | apply below_alloc | apply pw_below_drewN | apply below_drew1) | exact HB.out)) hb); clear HB; have HB := n0_; clear n0_; (try clear hb); (try clear hb2); (try clear hk); (try clear hi)))
    go_ret
    exact ⟨by first | rfl | (simp [errW_none, errW_some] <;> rfl) | (simp [*, errW_none, errW_some] <;> rfl), by repeat (first | (with_reducible first | exact HB.out | apply below_alloc | apply pw_below_drewN | apply below_drew1) | exact HB.out)⟩

/-- THE ONE PURE STATEMENT of aviarylaw03_CurveRoots: yours. -/
def aviarylaw03_CurveRoots.Pure : Prop := ∀ (a0 : Int), (Lit.int .i64 a0).wf = true → ∃ k, aviarylaw03_CurveRoots.f k a0 = some true
theorem aviarylaw03_CurveRoots.walk (P : aviarylaw03_CurveRoots.Pure) (a0 : Int) (w : World) (w0 : (Lit.int .i64 a0).wf = true) :
    Calls Try.prog 7 #[.int .i64 a0] w fun e w' => e = .returned (.bool true) ∧ Below w.heap.size w w' := by
  obtain ⟨k, h⟩ := P a0 w0
  refine (aviarylaw03_CurveRoots.calls k a0 true w h).mono ?_
  rintro e w' ⟨rfl, hd⟩
  exact ⟨rfl, hd⟩

end Go.Proofs.Ytfcchiocjefeeaa.PCurveRoots
