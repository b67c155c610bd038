/- A text of the session: functions of the program and their walks, laid by a program of its own (wip/tools/mkprint.py) over the translation. No condition. -/
import Derived.Test.YtlebklkckphhdaaPBytesSealedx0
import Derived.Test.YtlebklkckphhdaaPBytesSealedx1
import Derived.Test.YtlebklkckphhdaaPBytesSealedx2
namespace Go.Proofs.Ytlebklkckphhdaa.PBytesSealed
open Go.RowKit Go.Proofs.YtlebklkckphhdaaW.PrintWords Go.Proofs.YtlebklkckphhdaaW.PrintLast Go.Proofs.YtlebklkckphhdaaW.PrintMore
attribute [local go_sem] max2_int min2_int max_two min_two max_three min_three max_four min_four   -- for this text's walks alone
set_option linter.unusedVariables false
set_option linter.unusedSimpArgs false

/-! ### aviarylaw08_BytesSealed: function 6 -/
def aviarylaw08_BytesSealed.j0 : Nat → ByteArray → Int → Int → ByteArray → Bool → Option (Bool)
  | 0, _, _, _, _, _ => none
  | k + 1, x0, x1, x2, x7, x41 => if x41 = true then (some false) else (if x7.size ≤ 4611686018427387904 then ((some (bytesOf x7 : List Int)).bind fun y158 => (if (IntKind.u64.wrap ((y158.length : Int))) = 0 then (none) else (if 0 ≤ (wrap64 (Int.tmod (IntKind.u64.wrap (x1)) (IntKind.u64.wrap ((y158.length : Int))))) then (if (wrap64 (Int.tmod (IntKind.u64.wrap (x1)) (IntKind.u64.wrap ((y158.length : Int))))) < (y158.length : Int) then ((some (y158.set ((wrap64 (Int.tmod (IntKind.u64.wrap (x1)) (IntKind.u64.wrap ((y158.length : Int))))) : Int).toNat x2 : List Int)).bind fun y162 => (if (rd y158 (wrap64 (Int.tmod (IntKind.u64.wrap (x1)) (IntKind.u64.wrap ((y158.length : Int)))))) = x2 then (some true) else (if (wrap64 (Int.tmod (IntKind.u64.wrap (x1)) (IntKind.u64.wrap ((y158.length : Int))))) < (x0.size : Int) then (if (Int.tmod (rd y158 (wrap64 (Int.tmod (IntKind.u64.wrap (x1)) (IntKind.u64.wrap ((y158.length : Int)))))) 255) = (Int.tmod x2 255) then (some true) else ((bytes_Open.f k (strOfNums y162)).bind fun bt163 => (some (bt163.2 == 24)))) else ((bytes_Open.f k (strOfNums y162)).bind fun bt165 => (some (bt165.2 == 24)))))) else (none)) else (none)))) else (none))
def aviarylaw08_BytesSealed.f (k : Nat) (a0 : ByteArray) (a1 : Int) (a2 : Int) : Option (Bool) := (aviarylaw08_works.f k).bind fun t154 => (if t154 = true then (if (a0.size : Int) > 5000 then (some true) else ((bytes_Seal.f k a0).bind fun t155 => ((bytes_Open.f k t155).bind fun bt156 => (if bt156.2 = 0 then (if bt156.1.toList = a0.toList then (aviarylaw08_BytesSealed.j0 k a0 a1 a2 t155 ((t155.size : Int) != (wrap64 ((a0.size : Int) + 2)))) else (aviarylaw08_BytesSealed.j0 k a0 a1 a2 t155 true)) else (aviarylaw08_BytesSealed.j0 k a0 a1 a2 t155 true))))) else (some false))
theorem aviarylaw08_BytesSealed.mono_l : ∀ k, (∀ y0 y1 y2 y3 y4, LeO (aviarylaw08_BytesSealed.j0 k y0 y1 y2 y3 y4) (aviarylaw08_BytesSealed.j0 (k + 1) y0 y1 y2 y3 y4))
  | 0 => fun _ _ _ _ _ r h => by simp [aviarylaw08_BytesSealed.j0] at h
  | k + 1 => by
    have ih0 := aviarylaw08_BytesSealed.mono_l k
    · intro y0 y1 y2 y3 y4
      unfold aviarylaw08_BytesSealed.j0
      repeat' first
      | (with_reducible exact ih0 _ _ _ _ _)
      | (with_reducible exact aviarylaw08_works.mono _)
      | (with_reducible exact bytes_Open.mono _ _)
      | (with_reducible exact bytes_Seal.mono _ _)
      | (with_reducible exact LeO.refl _)
      | (with_reducible exact LeO.none _)
      | (with_reducible refine LeO.ite ?_ ?_)
      | (with_reducible refine LeO.bind ?_ (fun _ => ?_))
      | exact ih0 _ _ _ _ _
      | exact aviarylaw08_works.mono _
      | exact bytes_Open.mono _ _
      | exact bytes_Seal.mono _ _
      | exact LeO.none _
      | refine LeO.ite ?_ ?_
      | refine LeO.bind ?_ (fun _ => ?_)
theorem aviarylaw08_BytesSealed.mono : ∀ a0 a1 a2 k, LeO (aviarylaw08_BytesSealed.f k a0 a1 a2) (aviarylaw08_BytesSealed.f (k + 1) a0 a1 a2) := by
  intro a0 a1 a2 k
  have ih0 := aviarylaw08_BytesSealed.mono_l k
  unfold aviarylaw08_BytesSealed.f
  repeat' first
      | (with_reducible exact ih0 _ _ _ _ _)
      | (with_reducible exact aviarylaw08_works.mono _)
      | (with_reducible exact bytes_Open.mono _ _)
      | (with_reducible exact bytes_Seal.mono _ _)
      | (with_reducible exact LeO.refl _)
      | (with_reducible exact LeO.none _)
      | (with_reducible refine LeO.ite ?_ ?_)
      | (with_reducible refine LeO.bind ?_ (fun _ => ?_))
      | exact ih0 _ _ _ _ _
      | exact aviarylaw08_works.mono _
      | exact bytes_Open.mono _ _
      | exact bytes_Seal.mono _ _
      | exact LeO.none _
      | refine LeO.ite ?_ ?_
      | refine LeO.bind ?_ (fun _ => ?_)
set_option maxHeartbeats 8000000 in
set_option maxRecDepth 100000 in
theorem aviarylaw08_BytesSealed.calls (k : Nat) (a0 : ByteArray) (a1 : Int) (a2 : Int) (r : Bool) (w : World) (h : aviarylaw08_BytesSealed.f k a0 a1 a2 = some r) :
    Calls Try.prog 6 #[.string a0, .int .i64 a1, .int .u8 a2] w fun e w' => e = .returned (.bool r) ∧ Below w.heap.size w w' := by
  have HB := Aside0.mk (Below.refl w.heap.size w)
  have H : ((aviarylaw08_works.f k).bind fun t154 => (if t154 = true then (if (a0.size : Int) > 5000 then (some true) else ((bytes_Seal.f k a0).bind fun t155 => ((bytes_Open.f k t155).bind fun bt156 => (if bt156.2 = 0 then (if bt156.1.toList = a0.toList then (aviarylaw08_BytesSealed.j0 k a0 a1 a2 t155 ((t155.size : Int) != (wrap64 ((a0.size : Int) + 2)))) else (aviarylaw08_BytesSealed.j0 k a0 a1 a2 t155 true)) else (aviarylaw08_BytesSealed.j0 k a0 a1 a2 t155 true))))) else (some false))) = some r := h
  clear h
  replace H := Option.bind_eq_some_iff.mp H
  obtain ⟨t154, A40, H⟩ := H
  replace H : (if t154 = true then (if (a0.size : Int) > 5000 then (some true) else ((bytes_Seal.f k a0).bind fun t155 => ((bytes_Open.f k t155).bind fun bt156 => (if bt156.2 = 0 then (if bt156.1.toList = a0.toList then (aviarylaw08_BytesSealed.j0 k a0 a1 a2 t155 ((t155.size : Int) != (wrap64 ((a0.size : Int) + 2)))) else (aviarylaw08_BytesSealed.j0 k a0 a1 a2 t155 true)) else (aviarylaw08_BytesSealed.j0 k a0 a1 a2 t155 true))))) else (some false)) = some r := H
  have A4 := Aside0.mk A40
  clear A40
  by_cases c5 : t154 = true
  · subst c5
    have H1 : (if (a0.size : Int) > 5000 then (some true) else ((bytes_Seal.f k a0).bind fun t155 => ((bytes_Open.f k t155).bind fun bt156 => (if bt156.2 = 0 then (if bt156.1.toList = a0.toList then (aviarylaw08_BytesSealed.j0 k a0 a1 a2 t155 ((t155.size : Int) != (wrap64 ((a0.size : Int) + 2)))) else (aviarylaw08_BytesSealed.j0 k a0 a1 a2 t155 true)) else (aviarylaw08_BytesSealed.j0 k a0 a1 a2 t155 true))))) = some r := by rw [if_pos rfl] at H; exact H
    clear H
    have H := H1
    clear H1
    by_cases c6 : (a0.size : Int) > 5000
    · rw [if_pos c6] at H
      have c6b0 : decide (5000 < (a0.size : Int)) = true := decide_eq_true c6
      have c6b1 : decide (5000 < a0.size) = true := decide_eq_true (by omega)
      clear c6
      obtain rfl := Option.some.inj H
      go_enter Try.func6, Try.ntmps6
      go_wp2_with (first | ((with_reducible refine gate_callee (f := 26) rfl ?_); refine goesL_ (some 15) rfl rfl Try.func26 (by kernel_rfl) rfl #[] rfl (by (try simp only [List.map_toArray, List.map_cons, List.map_nil]); first | done | rfl | (simp only [List.length_drop, List.length_take]; rfl)) ?_; (with_reducible refine (aviarylaw08_works.calls k  true _ A4.out).mono ?_); rintro e w7 ⟨rfl, hb⟩; refine ⟨_, rfl, ?_⟩; have n0_ := Aside0.mk (below_step (by repeat (first | (with_reducible first | exact HB.out | apply below_alloc | apply pw_below_drewN | apply below_drew1) | exact HB.out)) hb); clear HB; have HB := n0_; clear n0_; (try clear hb); (try clear hb2); (try clear hk); (try clear hi)))
      go_ret
      exact ⟨by first | rfl | (simp [errW_none, errW_some] <;> rfl) | (simp [*, errW_none, errW_some] <;> rfl), by repeat (first | (with_reducible first | exact HB.out | apply below_alloc | apply pw_below_drewN | apply below_drew1) | exact HB.out)⟩
    · rw [if_neg c6] at H
      have c6b0 : decide (5000 < (a0.size : Int)) = false := decide_eq_false c6
      have c6b1 : decide (5000 < a0.size) = false := decide_eq_false (by omega)
      clear c6
      replace H := Option.bind_eq_some_iff.mp H
      obtain ⟨t155, A80, H⟩ := H
      replace H : ((bytes_Open.f k t155).bind fun bt156 => (if bt156.2 = 0 then (if bt156.1.toList = a0.toList then (aviarylaw08_BytesSealed.j0 k a0 a1 a2 t155 ((t155.size : Int) != (wrap64 ((a0.size : Int) + 2)))) else (aviarylaw08_BytesSealed.j0 k a0 a1 a2 t155 true)) else (aviarylaw08_BytesSealed.j0 k a0 a1 a2 t155 true))) = some r := H
      have A8 := Aside0.mk A80
      clear A80
      replace H := Option.bind_eq_some_iff.mp H
      obtain ⟨⟨t156, t157⟩, A90, H⟩ := H
      replace H : (if t157 = 0 then (if t156.toList = a0.toList then (aviarylaw08_BytesSealed.j0 k a0 a1 a2 t155 ((t155.size : Int) != (wrap64 ((a0.size : Int) + 2)))) else (aviarylaw08_BytesSealed.j0 k a0 a1 a2 t155 true)) else (aviarylaw08_BytesSealed.j0 k a0 a1 a2 t155 true)) = some r := H
      have A9 := Aside0.mk A90
      clear A90
      have HC10 := Aside0.mk H
      clear H
      go_enter Try.func6, Try.ntmps6
      go_upto_region 7 with (first | ((with_reducible refine gate_callee (f := 26) rfl ?_); refine goesL_ (some 15) rfl rfl Try.func26 (by kernel_rfl) rfl #[] rfl (by (try simp only [List.map_toArray, List.map_cons, List.map_nil]); first | done | rfl | (simp only [List.length_drop, List.length_take]; rfl)) ?_; (with_reducible refine (aviarylaw08_works.calls k  true _ A4.out).mono ?_); rintro e w11 ⟨rfl, hb⟩; refine ⟨_, rfl, ?_⟩; have n0_ := Aside0.mk (below_step (by repeat (first | (with_reducible first | exact HB.out | apply below_alloc | apply pw_below_drewN | apply below_drew1) | exact HB.out)) hb); clear HB; have HB := n0_; clear n0_; (try clear hb); (try clear hb2); (try clear hk); (try clear hi)) | ((with_reducible refine gate_callee (f := 16) rfl ?_); refine goesL_ (some 21) rfl rfl Try.func16 (by kernel_rfl) rfl #[.string a0] rfl (by (try simp only [List.map_toArray, List.map_cons, List.map_nil]); first | done | rfl | (simp only [List.length_drop, List.length_take]; rfl)) ?_; (with_reducible refine (bytes_Seal.calls k a0 t155 _ A8.out).mono ?_); rintro e w12 ⟨rfl, hb⟩; refine ⟨_, rfl, ?_⟩; have n0_ := Aside0.mk (below_step (by repeat (first | (with_reducible first | exact HB.out | apply below_alloc | apply pw_below_drewN | apply below_drew1) | exact HB.out)) hb); clear HB; have HB := n0_; clear n0_; (try clear hb); (try clear hb2); (try clear hk); (try clear hi)) | ((with_reducible refine gate_callee (f := 8) rfl ?_); refine goesL_ (some 24) rfl rfl Try.func8 (by kernel_rfl) rfl #[.string t155] rfl (by (try simp only [List.map_toArray, List.map_cons, List.map_nil]); first | done | rfl | (simp only [List.length_drop, List.length_take]; rfl)) ?_; (with_reducible refine (bytes_Open.calls k t155 t156 t157 _ A9.out).mono ?_); rintro e w13 ⟨rfl, hb⟩; refine ⟨_, rfl, ?_⟩; have n0_ := Aside0.mk (below_step (by repeat (first | (with_reducible first | exact HB.out | apply below_alloc | apply pw_below_drewN | apply below_drew1) | exact HB.out)) hb); clear HB; have HB := n0_; clear n0_; (try clear hb); (try clear hb2); (try clear hk); (try clear hi)))
      (try simp only [Act.put, List.setIfInBounds_toArray, List.set_cons_zero, List.set_cons_succ])
      go_cut [41] (fun v41 wc => ∃ (kq : Nat) (x41_9 : Bool), v41 = .bool x41_9 ∧ Aside0 (aviarylaw08_BytesSealed.j0 kq a0 a1 a2 t155 x41_9 = some r) ∧ Aside0 (kq ≤ k) ∧ Aside0 (Below w.heap.size w wc))
      case first =>
        have H := HC10.out
        clear HC10
        by_cases c14 : t157 = 0
        · rw [if_pos c14] at H
          have c14b0 : (t157 == 0) = true := beq_iff_eq.mpr c14
          have c14b1 : (t157 != 0) = false := bne_eq_false_iff_eq.mpr c14
          clear c14
          (first | rw [c14b0] | (simp only [i64_w, i32_w]; rw [c14b0]) | skip)
          by_cases c15 : t156.toList = a0.toList
          · rw [if_pos c15] at H
            have c15b0 : (t156.toList == a0.toList) = true := beq_iff_eq.mpr c15
            have c15b1 : (t156.toList != a0.toList) = false := bne_eq_false_iff_eq.mpr c15
            clear c15
            have H' := Aside0.mk H
            clear H
            go_wp2
            go_meet
            case rel => exact ⟨_, (((t155.size : Int) != (wrap64 ((a0.size : Int) + 2)))), (by first | rfl | (simp; done) | (simp [*]; done)), H', ⟨by first | omega | exact Nat.le_refl _⟩, ⟨by repeat (first | (with_reducible first | exact HB.out | apply below_alloc | apply pw_below_drewN | apply below_drew1) | exact HB.out)⟩⟩
          · rw [if_neg c15] at H
            have c15b0 : (t156.toList == a0.toList) = false := beq_eq_false_iff_ne.mpr c15
            have c15b1 : (t156.toList != a0.toList) = true := bne_iff_ne.mpr c15
            have H' := Aside0.mk H
            clear H
            go_wp2
            go_meet
            case rel => exact ⟨_, (true), (by first | rfl | (simp; done) | (simp [*]; done)), H', ⟨by first | omega | exact Nat.le_refl _⟩, ⟨by repeat (first | (with_reducible first | exact HB.out | apply below_alloc | apply pw_below_drewN | apply below_drew1) | exact HB.out)⟩⟩
        · rw [if_neg c14] at H
          have c14b0 : (t157 == 0) = false := beq_eq_false_iff_ne.mpr c14
          have c14b1 : (t157 != 0) = true := bne_iff_ne.mpr c14
          (first | rw [c14b0] | (simp only [i64_w, i32_w]; rw [c14b0]) | skip)
          have H' := Aside0.mk H
          clear H
          go_wp2
          go_meet
          case rel => exact ⟨_, (true), (by first | rfl | (simp; done) | (simp [*]; done)), H', ⟨by first | omega | exact Nat.le_refl _⟩, ⟨by repeat (first | (with_reducible first | exact HB.out | apply below_alloc | apply pw_below_drewN | apply below_drew1) | exact HB.out)⟩⟩
      case rest =>
        clear HC10
        try clear c1
        try clear c2
        try clear p2
        try clear c5
        try clear c6
        try clear c6b0
        try clear c6b1
        try clear p6
        try clear c8
        try clear c14
        try clear c14b0
        try clear c14b1
        try clear c15
        try clear c15b0
        try clear c15b1
        obtain ⟨kq, x41_9, rfl, HA, HJ9, HB⟩ := hcut
        cases kq with
        | zero => exact absurd HA.out (by simp [aviarylaw08_BytesSealed.j0])
        | succ kj9 =>
          have H := HA.out
          clear HA
          simp only [aviarylaw08_BytesSealed.j0] at H
          by_cases c16 : x41_9 = true
          · subst c16
            have H1 : (some false) = some r := by rw [if_pos rfl] at H; exact H
            clear H
            have H := H1
            clear H1
            obtain rfl := Option.some.inj H
            go_wp2
            go_ret
            exact ⟨by first | rfl | (simp [errW_none, errW_some] <;> rfl) | (simp [*, errW_none, errW_some] <;> rfl), by repeat (first | (with_reducible first | exact HB.out | apply below_alloc | apply pw_below_drewN | apply below_drew1) | exact HB.out)⟩
          · replace c16 := Bool.eq_false_iff.mpr c16
            subst c16
            have H1 : (if t155.size ≤ 4611686018427387904 then ((some (bytesOf t155 : List Int)).bind fun y158 => (if (IntKind.u64.wrap ((y158.length : Int))) = 0 then (none) else (if 0 ≤ (wrap64 (Int.tmod (IntKind.u64.wrap (a1)) (IntKind.u64.wrap ((y158.length : Int))))) then (if (wrap64 (Int.tmod (IntKind.u64.wrap (a1)) (IntKind.u64.wrap ((y158.length : Int))))) < (y158.length : Int) then ((some (y158.set ((wrap64 (Int.tmod (IntKind.u64.wrap (a1)) (IntKind.u64.wrap ((y158.length : Int))))) : Int).toNat a2 : List Int)).bind fun y162 => (if (rd y158 (wrap64 (Int.tmod (IntKind.u64.wrap (a1)) (IntKind.u64.wrap ((y158.length : Int)))))) = a2 then (some true) else (if (wrap64 (Int.tmod (IntKind.u64.wrap (a1)) (IntKind.u64.wrap ((y158.length : Int))))) < (a0.size : Int) then (if (Int.tmod (rd y158 (wrap64 (Int.tmod (IntKind.u64.wrap (a1)) (IntKind.u64.wrap ((y158.length : Int)))))) 255) = (Int.tmod a2 255) then (some true) else ((bytes_Open.f kj9 (strOfNums y162)).bind fun bt163 => (some (bt163.2 == 24)))) else ((bytes_Open.f kj9 (strOfNums y162)).bind fun bt165 => (some (bt165.2 == 24)))))) else (none)) else (none)))) else (none)) = some r := by rw [if_neg (show ¬ (false = true) by decide)] at H; exact H
            clear H
            have H := H1
            clear H1
            by_cases c17 : t155.size ≤ 4611686018427387904
            · rw [if_pos c17] at H
              have c17b0 := eq_true c17
              have c17b1 : decide (t155.size ≤ 4611686018427387904) = true := decide_eq_true c17
              clear c17
              obtain ⟨y158, hy158⟩ : ∃ y_ : List Int, y_ = (bytesOf t155) := ⟨_, rfl⟩
              replace H : (if (IntKind.u64.wrap ((y158.length : Int))) = 0 then (none) else (if 0 ≤ (wrap64 (Int.tmod (IntKind.u64.wrap (a1)) (IntKind.u64.wrap ((y158.length : Int))))) then (if (wrap64 (Int.tmod (IntKind.u64.wrap (a1)) (IntKind.u64.wrap ((y158.length : Int))))) < (y158.length : Int) then ((some (y158.set ((wrap64 (Int.tmod (IntKind.u64.wrap (a1)) (IntKind.u64.wrap ((y158.length : Int))))) : Int).toNat a2 : List Int)).bind fun y162 => (if (rd y158 (wrap64 (Int.tmod (IntKind.u64.wrap (a1)) (IntKind.u64.wrap ((y158.length : Int)))))) = a2 then (some true) else (if (wrap64 (Int.tmod (IntKind.u64.wrap (a1)) (IntKind.u64.wrap ((y158.length : Int))))) < (a0.size : Int) then (if (Int.tmod (rd y158 (wrap64 (Int.tmod (IntKind.u64.wrap (a1)) (IntKind.u64.wrap ((y158.length : Int)))))) 255) = (Int.tmod a2 255) then (some true) else ((bytes_Open.f kj9 (strOfNums y162)).bind fun bt163 => (some (bt163.2 == 24)))) else ((bytes_Open.f kj9 (strOfNums y162)).bind fun bt165 => (some (bt165.2 == 24)))))) else (none)) else (none))) = some r := by first | (rw [hy158]; with_reducible exact H) | (have H2_ := (Option.bind_some _ _).symm.trans H; rw [hy158]; with_reducible exact H2_) | (have H2_ := (Option.bind_some _ _).symm.trans H; with_reducible exact H2_) | with_reducible exact H | (rw [hy158]; exact H) | exact H
              have Ny158 := Aside0.mk hy158
              clear hy158
              by_cases c18 : (IntKind.u64.wrap ((y158.length : Int))) = 0
              · rw [if_pos c18] at H
                exact absurd H (by simp)
              · rw [if_neg c18] at H
                have c18b0 : ((IntKind.u64.wrap ((y158.length : Int))) == 0) = false := beq_eq_false_iff_ne.mpr c18
                have c18b1 : ((IntKind.u64.wrap ((y158.length : Int))) != 0) = true := bne_iff_ne.mpr c18
                obtain ⟨ji19, hji19⟩ : ∃ j_ : Int, (wrap64 (Int.tmod (IntKind.u64.wrap (a1)) (IntKind.u64.wrap ((y158.length : Int))))) = j_ := ⟨_, rfl⟩
                replace H : (if 0 ≤ (ji19) then (if (ji19) < (y158.length : Int) then ((some (y158.set ((ji19) : Int).toNat a2 : List Int)).bind fun y162 => (if (rd y158 (ji19)) = a2 then (some true) else (if (ji19) < (a0.size : Int) then (if (Int.tmod (rd y158 (ji19)) 255) = (Int.tmod a2 255) then (some true) else ((bytes_Open.f kj9 (strOfNums y162)).bind fun bt163 => (some (bt163.2 == 24)))) else ((bytes_Open.f kj9 (strOfNums y162)).bind fun bt165 => (some (bt165.2 == 24)))))) else (none)) else (none)) = some r := by first | (rw [hji19] at H; exact H) | (simp only [hji19] at H ⊢; exact H)
                have hji19w : (IntKind.i64.wrap (Int.tmod (IntKind.u64.wrap (a1)) (IntKind.u64.wrap ((y158.length : Int))))) = ji19 := (i64_w _).trans hji19
                by_cases c20 : 0 ≤ (ji19)
                · rw [if_pos c20] at H
                  have c20b0 : decide (0 ≤ (ji19)) = true := decide_eq_true c20
                  clear c20
                  by_cases c21 : (ji19) < (y158.length : Int)
                  · rw [if_pos c21] at H
                    have c21b0 : decide ((ji19) < (y158.length : Int)) = true := decide_eq_true c21
                    clear c21
                    obtain ⟨y162, hy162⟩ : ∃ y_ : List Int, y_ = (y158.set ((ji19) : Int).toNat a2) := ⟨_, rfl⟩
                    replace H : (if (rd y158 (ji19)) = a2 then (some true) else (if (ji19) < (a0.size : Int) then (if (Int.tmod (rd y158 (ji19)) 255) = (Int.tmod a2 255) then (some true) else ((bytes_Open.f kj9 (strOfNums y162)).bind fun bt163 => (some (bt163.2 == 24)))) else ((bytes_Open.f kj9 (strOfNums y162)).bind fun bt165 => (some (bt165.2 == 24))))) = some r := by first | (rw [hy162]; with_reducible exact H) | (have H2_ := (Option.bind_some _ _).symm.trans H; rw [hy162]; with_reducible exact H2_) | (have H2_ := (Option.bind_some _ _).symm.trans H; with_reducible exact H2_) | with_reducible exact H | (rw [hy162]; exact H) | exact H
                    have Ny162 := Aside0.mk hy162
                    clear hy162
                    by_cases c23 : (rd y158 (ji19)) = a2
                    · rw [if_pos c23] at H
                      have c23b0 : ((rd y158 (ji19)) == a2) = true := beq_iff_eq.mpr c23
                      have c23b1 : ((rd y158 (ji19)) != a2) = false := bne_eq_false_iff_eq.mpr c23
                      clear c23
                      obtain rfl := Option.some.inj H
                      go_wp2_with (first | ((with_reducible refine gate_dst (N := 43) rfl ?_); (try (refine gate_guard (by rfl) ?_; dsimp only)); refine Kd.B_make rfl (N := 43) rfl 9 44 5 _ rfl Try.underlying9 Try.underlying44 Try.underlying5 t155 rfl (Nat.le_trans (of_decide_eq_true (by first | (with_reducible assumption) | assumption) : t155.size ≤ 4611686018427387904) (by decide)) (Below.refl _ _) (Nat.le_refl _) ?_; intro v159 w24 ho25 hb hg_ hnew_; clear hg_ hnew_; (first | rw [← Ny158.out] at ho25 | (simp only [Int.reduceToNat] at ho25; rw [← Ny158.out] at ho25)); have n0_ := Aside0.mk (Kd.B_lower ho25 (below_size (by repeat (first | (with_reducible first | exact HB.out | apply below_alloc | apply pw_below_drewN | apply below_drew1) | exact HB.out)))); have n1_ := Aside0.mk (below_step (by repeat (first | (with_reducible first | exact HB.out | apply below_alloc | apply pw_below_drewN | apply below_drew1) | exact HB.out)) hb); clear HB; have HO160 := n0_; have HB := n1_; clear n0_ n1_; clear hb ho25; obtain ⟨Ao26, co26, eo26⟩ := Kd.B_slice HO160.out; subst eo26; have p161 : 0 ≤ ((ji19) : Int) := of_decide_eq_true (by first | (with_reducible assumption) | assumption); have q161 : (ji19) < (y158.length : Int) := of_decide_eq_true (by first | (with_reducible assumption) | assumption); obtain ⟨ad161, e161, hx161_0⟩ := Kd.at_int (Kd.B_reads' HO160.out).2.2 (ji19) p161 q161; cases e161; replace p161 := eq_true p161; replace q161 := eq_true q161; have p22 : 0 ≤ ((ji19) : Int) := of_decide_eq_true (by first | (with_reducible assumption) | assumption); have q22 : ((ji19) : Int) < ((y158.length : Int) : Int) := of_decide_eq_true (by first | (with_reducible assumption) | assumption); obtain ⟨go22, co22, eo22, gb22, gl22, cl22, HG22⟩ := Kd.B_form HO160.out (by omega); (first | cases eo22 | (injection eo22 with ea_ en_ ec_; (first | subst ea_ | (injection ea_ with ea_; subst ea_)); subst ec_; clear en_)); have GB22 := Aside0.mk gb22; have GG22 := Aside0.mk HG22; clear gb22 gl22 HG22; (first | simp only [add_plain] at hx161_0 | skip); obtain ⟨hx22_0, hf22_0⟩ := Kd.B_celln 0 HO160.out ((ji19) : Int) p22 q22; replace p22 := eq_true p22; replace q22 := eq_true q22; obtain ⟨hy27_, hz27_⟩ := Kd.B_celln 0 HO160.out ((ji19) : Int) (of_decide_eq_true (by first | (with_reducible assumption) | assumption)) (of_decide_eq_true (by first | (with_reducible assumption) | assumption)); have HP27 := Kd.B_putg HO160.out ((ji19) : Int) a2) | ((with_reducible refine gate_store (t := 5) (p := 58) rfl ?_); refine store_event (t := 5) (p := 58) (v := ?vo_w28) (w1 := (w24.setCell ⟨go22, ((ji19) : Int).toNat, none⟩ (.int .u8 a2))) ?hg ?ho ?hn ?hr ?_; (case ho => rfl); (case hg => rfl); (case hn => rfl); (case hr => first | (go_simp; done) | (go_simp; rfl)); intro w28 hw; have hg : w24.grownBy w28 (some go22) := (by rw [hw]; exact HP27.2); have hp_ : Kd.B (Kd.int .u8) 5 w28 w.heap.size (fun _ => True) (.slice (some ⟨go22, 0, none⟩) y158.length co26) y162 := (by rw [hw, Ny162.out]; exact HP27.1); clear HP27; have n0_ := Aside0.mk (hp_); have n1_ := Aside0.mk ((by rw [hw]; exact below_set (HB.out) GB22.out : Below w.heap.size w w28)); clear HO160; clear HB; have HO160 := n0_; have HB := n1_; clear n0_ n1_; clear hg hw hp_))
                      go_ret
                      exact ⟨by first | rfl | (simp [errW_none, errW_some] <;> rfl) | (simp only [← hji19]; first | rfl | (simp [errW_none, errW_some] <;> rfl)) | (simp [*, errW_none, errW_some] <;> rfl), by repeat (first | (with_reducible first | exact HB.out | apply below_alloc | apply pw_below_drewN | apply below_drew1) | exact HB.out)⟩
                    · rw [if_neg c23] at H
                      have c23b0 : ((rd y158 (ji19)) == a2) = false := beq_eq_false_iff_ne.mpr c23
                      have c23b1 : ((rd y158 (ji19)) != a2) = true := bne_iff_ne.mpr c23
                      by_cases c29 : (ji19) < (a0.size : Int)
                      · rw [if_pos c29] at H
                        have c29b0 : decide ((ji19) < (a0.size : Int)) = true := decide_eq_true c29
                        clear c29
                        by_cases c30 : (Int.tmod (rd y158 (ji19)) 255) = (Int.tmod a2 255)
                        · rw [if_pos c30] at H
                          have c30b0 : ((Int.tmod (rd y158 (ji19)) 255) == (Int.tmod a2 255)) = true := beq_iff_eq.mpr c30
                          have c30b1 : ((Int.tmod (rd y158 (ji19)) 255) != (Int.tmod a2 255)) = false := bne_eq_false_iff_eq.mpr c30
                          clear c30
                          obtain rfl := Option.some.inj H
                          go_wp2_with (first | ((with_reducible refine gate_dst (N := 43) rfl ?_); (try (refine gate_guard (by rfl) ?_; dsimp only)); refine Kd.B_make rfl (N := 43) rfl 9 44 5 _ rfl Try.underlying9 Try.underlying44 Try.underlying5 t155 rfl (Nat.le_trans (of_decide_eq_true (by first | (with_reducible assumption) | assumption) : t155.size ≤ 4611686018427387904) (by decide)) (Below.refl _ _) (Nat.le_refl _) ?_; intro v159 w31 ho32 hb hg_ hnew_; clear hg_ hnew_; (first | rw [← Ny158.out] at ho32 | (simp only [Int.reduceToNat] at ho32; rw [← Ny158.out] at ho32)); have n0_ := Aside0.mk (Kd.B_lower ho32 (below_size (by repeat (first | (with_reducible first | exact HB.out | apply below_alloc | apply pw_below_drewN | apply below_drew1) | exact HB.out)))); have n1_ := Aside0.mk (below_step (by repeat (first | (with_reducible first | exact HB.out | apply below_alloc | apply pw_below_drewN | apply below_drew1) | exact HB.out)) hb); clear HB; have HO160 := n0_; have HB := n1_; clear n0_ n1_; clear hb ho32; obtain ⟨Ao33, co33, eo33⟩ := Kd.B_slice HO160.out; subst eo33; have p161 : 0 ≤ ((ji19) : Int) := of_decide_eq_true (by first | (with_reducible assumption) | assumption); have q161 : (ji19) < (y158.length : Int) := of_decide_eq_true (by first | (with_reducible assumption) | assumption); obtain ⟨ad161, e161, hx161_0⟩ := Kd.at_int (Kd.B_reads' HO160.out).2.2 (ji19) p161 q161; cases e161; replace p161 := eq_true p161; replace q161 := eq_true q161; have p22 : 0 ≤ ((ji19) : Int) := of_decide_eq_true (by first | (with_reducible assumption) | assumption); have q22 : ((ji19) : Int) < ((y158.length : Int) : Int) := of_decide_eq_true (by first | (with_reducible assumption) | assumption); obtain ⟨go22, co22, eo22, gb22, gl22, cl22, HG22⟩ := Kd.B_form HO160.out (by omega); (first | cases eo22 | (injection eo22 with ea_ en_ ec_; (first | subst ea_ | (injection ea_ with ea_; subst ea_)); subst ec_; clear en_)); have GB22 := Aside0.mk gb22; have GG22 := Aside0.mk HG22; clear gb22 gl22 HG22; (first | simp only [add_plain] at hx161_0 | skip); obtain ⟨hx22_0, hf22_0⟩ := Kd.B_celln 0 HO160.out ((ji19) : Int) p22 q22; replace p22 := eq_true p22; replace q22 := eq_true q22; obtain ⟨hy34_, hz34_⟩ := Kd.B_celln 0 HO160.out ((ji19) : Int) (of_decide_eq_true (by first | (with_reducible assumption) | assumption)) (of_decide_eq_true (by first | (with_reducible assumption) | assumption)); have HP34 := Kd.B_putg HO160.out ((ji19) : Int) a2) | ((with_reducible refine gate_store (t := 5) (p := 58) rfl ?_); refine store_event (t := 5) (p := 58) (v := ?vo_w35) (w1 := (w31.setCell ⟨go22, ((ji19) : Int).toNat, none⟩ (.int .u8 a2))) ?hg ?ho ?hn ?hr ?_; (case ho => rfl); (case hg => rfl); (case hn => rfl); (case hr => first | (go_simp; done) | (go_simp; rfl)); intro w35 hw; have hg : w31.grownBy w35 (some go22) := (by rw [hw]; exact HP34.2); have hp_ : Kd.B (Kd.int .u8) 5 w35 w.heap.size (fun _ => True) (.slice (some ⟨go22, 0, none⟩) y158.length co33) y162 := (by rw [hw, Ny162.out]; exact HP34.1); clear HP34; have n0_ := Aside0.mk (hp_); have n1_ := Aside0.mk ((by rw [hw]; exact below_set (HB.out) GB22.out : Below w.heap.size w w35)); clear HO160; clear HB; have HO160 := n0_; have HB := n1_; clear n0_ n1_; clear hg hw hp_))
                          go_ret
                          exact ⟨by first | rfl | (simp [errW_none, errW_some] <;> rfl) | (simp only [← hji19]; first | rfl | (simp [errW_none, errW_some] <;> rfl)) | (simp [*, errW_none, errW_some] <;> rfl), by repeat (first | (with_reducible first | exact HB.out | apply below_alloc | apply pw_below_drewN | apply below_drew1) | exact HB.out)⟩
                        · rw [if_neg c30] at H
                          have c30b0 : ((Int.tmod (rd y158 (ji19)) 255) == (Int.tmod a2 255)) = false := beq_eq_false_iff_ne.mpr c30
                          have c30b1 : ((Int.tmod (rd y158 (ji19)) 255) != (Int.tmod a2 255)) = true := bne_iff_ne.mpr c30
                          replace H := Option.bind_eq_some_iff.mp H
                          obtain ⟨⟨t163, t164⟩, A360, H⟩ := H
                          replace H : (some (t164 == 24)) = some r := H
                          have A36 := Aside0.mk A360
                          clear A360
                          obtain rfl := Option.some.inj H
                          go_wp2_with (first | ((with_reducible refine gate_dst (N := 43) rfl ?_); (try (refine gate_guard (by rfl) ?_; dsimp only)); refine Kd.B_make rfl (N := 43) rfl 9 44 5 _ rfl Try.underlying9 Try.underlying44 Try.underlying5 t155 rfl (Nat.le_trans (of_decide_eq_true (by first | (with_reducible assumption) | assumption) : t155.size ≤ 4611686018427387904) (by decide)) (Below.refl _ _) (Nat.le_refl _) ?_; intro v159 w37 ho38 hb hg_ hnew_; clear hg_ hnew_; (first | rw [← Ny158.out] at ho38 | (simp only [Int.reduceToNat] at ho38; rw [← Ny158.out] at ho38)); have n0_ := Aside0.mk (Kd.B_lower ho38 (below_size (by repeat (first | (with_reducible first | exact HB.out | apply below_alloc | apply pw_below_drewN | apply below_drew1) | exact HB.out)))); have n1_ := Aside0.mk (below_step (by repeat (first | (with_reducible first | exact HB.out | apply below_alloc | apply pw_below_drewN | apply below_drew1) | exact HB.out)) hb); clear HB; have HO160 := n0_; have HB := n1_; clear n0_ n1_; clear hb ho38; obtain ⟨Ao39, co39, eo39⟩ := Kd.B_slice HO160.out; subst eo39; have p161 : 0 ≤ ((ji19) : Int) := of_decide_eq_true (by first | (with_reducible assumption) | assumption); have q161 : (ji19) < (y158.length : Int) := of_decide_eq_true (by first | (with_reducible assumption) | assumption); obtain ⟨ad161, e161, hx161_0⟩ := Kd.at_int (Kd.B_reads' HO160.out).2.2 (ji19) p161 q161; cases e161; replace p161 := eq_true p161; replace q161 := eq_true q161; have p22 : 0 ≤ ((ji19) : Int) := of_decide_eq_true (by first | (with_reducible assumption) | assumption); have q22 : ((ji19) : Int) < ((y158.length : Int) : Int) := of_decide_eq_true (by first | (with_reducible assumption) | assumption); obtain ⟨go22, co22, eo22, gb22, gl22, cl22, HG22⟩ := Kd.B_form HO160.out (by omega); (first | cases eo22 | (injection eo22 with ea_ en_ ec_; (first | subst ea_ | (injection ea_ with ea_; subst ea_)); subst ec_; clear en_)); have GB22 := Aside0.mk gb22; have GG22 := Aside0.mk HG22; clear gb22 gl22 HG22; (first | simp only [add_plain] at hx161_0 | skip); obtain ⟨hx22_0, hf22_0⟩ := Kd.B_celln 0 HO160.out ((ji19) : Int) p22 q22; replace p22 := eq_true p22; replace q22 := eq_true q22; obtain ⟨hy40_, hz40_⟩ := Kd.B_celln 0 HO160.out ((ji19) : Int) (of_decide_eq_true (by first | (with_reducible assumption) | assumption)) (of_decide_eq_true (by first | (with_reducible assumption) | assumption)); have HP40 := Kd.B_putg HO160.out ((ji19) : Int) a2) | ((with_reducible refine gate_store (t := 5) (p := 58) rfl ?_); refine store_event (t := 5) (p := 58) (v := ?vo_w41) (w1 := (w37.setCell ⟨go22, ((ji19) : Int).toNat, none⟩ (.int .u8 a2))) ?hg ?ho ?hn ?hr ?_; (case ho => rfl); (case hg => rfl); (case hn => rfl); (case hr => first | (go_simp; done) | (go_simp; rfl)); intro w41 hw; have hg : w37.grownBy w41 (some go22) := (by rw [hw]; exact HP40.2); have hp_ : Kd.B (Kd.int .u8) 5 w41 w.heap.size (fun _ => True) (.slice (some ⟨go22, 0, none⟩) y158.length co39) y162 := (by rw [hw, Ny162.out]; exact HP40.1); clear HP40; have n0_ := Aside0.mk (hp_); have n1_ := Aside0.mk ((by rw [hw]; exact below_set (HB.out) GB22.out : Below w.heap.size w w41)); clear HO160; clear HB; have HO160 := n0_; have HB := n1_; clear n0_ n1_; clear hg hw hp_; have hcv42 := OwnB.string (P := Try.prog) Try.underlying44 Try.underlying5 Try.underlying9 (id HO160.out)) | ((with_reducible refine gate_callee (f := 8) rfl ?_); refine goesL_ (some 78) rfl rfl Try.func8 (by kernel_rfl) rfl #[.string (strOfNums y162)] rfl (by (try simp only [List.map_toArray, List.map_cons, List.map_nil]); first | done | rfl | (simp only [List.length_drop, List.length_take]; rfl)) ?_; (with_reducible refine (bytes_Open.calls kj9 (strOfNums y162) t163 t164 _ A36.out).mono ?_); rintro e w43 ⟨rfl, hb⟩; refine ⟨_, rfl, ?_⟩; have n0_ := Aside0.mk (Kd.B_below (by (with_reducible repeat (first | apply Kd.B_alloc | apply Kd.B_drewN | apply Kd.B_drew)); exact HO160.out) hb); have n1_ := Aside0.mk (below_step (by repeat (first | (with_reducible first | exact HB.out | apply below_alloc | apply pw_below_drewN | apply below_drew1) | exact HB.out)) hb); clear HO160; clear HB; have HO160 := n0_; have HB := n1_; clear n0_ n1_; (try clear hb); (try clear hb2); (try clear hk); (try clear hi)))
                          go_ret
                          exact ⟨by first | rfl | (simp [errW_none, errW_some] <;> rfl) | (simp only [← hji19]; first | rfl | (simp [errW_none, errW_some] <;> rfl)) | (simp [*, errW_none, errW_some] <;> rfl), by repeat (first | (with_reducible first | exact HB.out | apply below_alloc | apply pw_below_drewN | apply below_drew1) | exact HB.out)⟩
                      · rw [if_neg c29] at H
                        have c29b0 : decide ((ji19) < (a0.size : Int)) = false := decide_eq_false c29
                        clear c29
                        replace H := Option.bind_eq_some_iff.mp H
                        obtain ⟨⟨t165, t166⟩, A440, H⟩ := H
                        replace H : (some (t166 == 24)) = some r := H
                        have A44 := Aside0.mk A440
                        clear A440
                        obtain rfl := Option.some.inj H
                        go_wp2_with (first | ((with_reducible refine gate_dst (N := 43) rfl ?_); (try (refine gate_guard (by rfl) ?_; dsimp only)); refine Kd.B_make rfl (N := 43) rfl 9 44 5 _ rfl Try.underlying9 Try.underlying44 Try.underlying5 t155 rfl (Nat.le_trans (of_decide_eq_true (by first | (with_reducible assumption) | assumption) : t155.size ≤ 4611686018427387904) (by decide)) (Below.refl _ _) (Nat.le_refl _) ?_; intro v159 w45 ho46 hb hg_ hnew_; clear hg_ hnew_; (first | rw [← Ny158.out] at ho46 | (simp only [Int.reduceToNat] at ho46; rw [← Ny158.out] at ho46)); have n0_ := Aside0.mk (Kd.B_lower ho46 (below_size (by repeat (first | (with_reducible first | exact HB.out | apply below_alloc | apply pw_below_drewN | apply below_drew1) | exact HB.out)))); have n1_ := Aside0.mk (below_step (by repeat (first | (with_reducible first | exact HB.out | apply below_alloc | apply pw_below_drewN | apply below_drew1) | exact HB.out)) hb); clear HB; have HO160 := n0_; have HB := n1_; clear n0_ n1_; clear hb ho46; obtain ⟨Ao47, co47, eo47⟩ := Kd.B_slice HO160.out; subst eo47; have p161 : 0 ≤ ((ji19) : Int) := of_decide_eq_true (by first | (with_reducible assumption) | assumption); have q161 : (ji19) < (y158.length : Int) := of_decide_eq_true (by first | (with_reducible assumption) | assumption); obtain ⟨ad161, e161, hx161_0⟩ := Kd.at_int (Kd.B_reads' HO160.out).2.2 (ji19) p161 q161; cases e161; replace p161 := eq_true p161; replace q161 := eq_true q161; have p22 : 0 ≤ ((ji19) : Int) := of_decide_eq_true (by first | (with_reducible assumption) | assumption); have q22 : ((ji19) : Int) < ((y158.length : Int) : Int) := of_decide_eq_true (by first | (with_reducible assumption) | assumption); obtain ⟨go22, co22, eo22, gb22, gl22, cl22, HG22⟩ := Kd.B_form HO160.out (by omega); (first | cases eo22 | (injection eo22 with ea_ en_ ec_; (first | subst ea_ | (injection ea_ with ea_; subst ea_)); subst ec_; clear en_)); have GB22 := Aside0.mk gb22; have GG22 := Aside0.mk HG22; clear gb22 gl22 HG22; (first | simp only [add_plain] at hx161_0 | skip); obtain ⟨hx22_0, hf22_0⟩ := Kd.B_celln 0 HO160.out ((ji19) : Int) p22 q22; replace p22 := eq_true p22; replace q22 := eq_true q22; obtain ⟨hy48_, hz48_⟩ := Kd.B_celln 0 HO160.out ((ji19) : Int) (of_decide_eq_true (by first | (with_reducible assumption) | assumption)) (of_decide_eq_true (by first | (with_reducible assumption) | assumption)); have HP48 := Kd.B_putg HO160.out ((ji19) : Int) a2) | ((with_reducible refine gate_store (t := 5) (p := 58) rfl ?_); refine store_event (t := 5) (p := 58) (v := ?vo_w49) (w1 := (w45.setCell ⟨go22, ((ji19) : Int).toNat, none⟩ (.int .u8 a2))) ?hg ?ho ?hn ?hr ?_; (case ho => rfl); (case hg => rfl); (case hn => rfl); (case hr => first | (go_simp; done) | (go_simp; rfl)); intro w49 hw; have hg : w45.grownBy w49 (some go22) := (by rw [hw]; exact HP48.2); have hp_ : Kd.B (Kd.int .u8) 5 w49 w.heap.size (fun _ => True) (.slice (some ⟨go22, 0, none⟩) y158.length co47) y162 := (by rw [hw, Ny162.out]; exact HP48.1); clear HP48; have n0_ := Aside0.mk (hp_); have n1_ := Aside0.mk ((by rw [hw]; exact below_set (HB.out) GB22.out : Below w.heap.size w w49)); clear HO160; clear HB; have HO160 := n0_; have HB := n1_; clear n0_ n1_; clear hg hw hp_; have hcv50 := OwnB.string (P := Try.prog) Try.underlying44 Try.underlying5 Try.underlying9 (id HO160.out)) | ((with_reducible refine gate_callee (f := 8) rfl ?_); refine goesL_ (some 78) rfl rfl Try.func8 (by kernel_rfl) rfl #[.string (strOfNums y162)] rfl (by (try simp only [List.map_toArray, List.map_cons, List.map_nil]); first | done | rfl | (simp only [List.length_drop, List.length_take]; rfl)) ?_; (with_reducible refine (bytes_Open.calls kj9 (strOfNums y162) t165 t166 _ A44.out).mono ?_); rintro e w51 ⟨rfl, hb⟩; refine ⟨_, rfl, ?_⟩; have n0_ := Aside0.mk (Kd.B_below (by (with_reducible repeat (first | apply Kd.B_alloc | apply Kd.B_drewN | apply Kd.B_drew)); exact HO160.out) hb); have n1_ := Aside0.mk (below_step (by repeat (first | (with_reducible first | exact HB.out | apply below_alloc | apply pw_below_drewN | apply below_drew1) | exact HB.out)) hb); clear HO160; clear HB; have HO160 := n0_; have HB := n1_; clear n0_ n1_; (try clear hb); (try clear hb2); (try clear hk); (try clear hi)))
                        go_ret
                        exact ⟨by first | rfl | (simp [errW_none, errW_some] <;> rfl) | (simp only [← hji19]; first | rfl | (simp [errW_none, errW_some] <;> rfl)) | (simp [*, errW_none, errW_some] <;> rfl), by repeat (first | (with_reducible first | exact HB.out | apply below_alloc | apply pw_below_drewN | apply below_drew1) | exact HB.out)⟩
                  · rw [if_neg c21] at H
                    exact absurd H (by simp)
                · rw [if_neg c20] at H
                  exact absurd H (by simp)
            · rw [if_neg c17] at H
              exact absurd H (by simp)
  · replace c5 := Bool.eq_false_iff.mpr c5
    subst c5
    have H1 : (some false) = some r := by rw [if_neg (show ¬ (false = true) by decide)] at H; exact H
    clear H
    have H := H1
    clear H1
    obtain rfl := Option.some.inj H
    go_enter Try.func6, Try.ntmps6
    go_wp2_with (first | ((with_reducible refine gate_callee (f := 26) rfl ?_); refine goesL_ (some 15) rfl rfl Try.func26 (by kernel_rfl) rfl #[] rfl (by (try simp only [List.map_toArray, List.map_cons, List.map_nil]); first | done | rfl | (simp only [List.length_drop, List.length_take]; rfl)) ?_; (with_reducible refine (aviarylaw08_works.calls k  false _ A4.out).mono ?_); rintro e w52 ⟨rfl, hb⟩; refine ⟨_, rfl, ?_⟩; have n0_ := Aside0.mk (below_step (by repeat (first | (with_reducible first | exact HB.out | apply below_alloc | apply pw_below_drewN | apply below_drew1) | exact HB.out)) hb); clear HB; have HB := n0_; clear n0_; (try clear hb); (try clear hb2); (try clear hk); (try clear hi)))
    go_ret
    exact ⟨by first | rfl | (simp [errW_none, errW_some] <;> rfl) | (simp [*, errW_none, errW_some] <;> rfl), by repeat (first | (with_reducible first | exact HB.out | apply below_alloc | apply pw_below_drewN | apply below_drew1) | exact HB.out)⟩

/-- THE ONE PURE STATEMENT of aviarylaw08_BytesSealed: yours. -/
def aviarylaw08_BytesSealed.Pure : Prop := ∀ (a0 : ByteArray) (a1 : Int) (a2 : Int), a0.size ≤ 140737488351232 → (Lit.int .i64 a1).wf = true → (Lit.int .u8 a2).wf = true → ∃ k, aviarylaw08_BytesSealed.f k a0 a1 a2 = some true
theorem aviarylaw08_BytesSealed.walk (P : aviarylaw08_BytesSealed.Pure) (a0 : ByteArray) (a1 : Int) (a2 : Int) (w : World) (w0 : a0.size ≤ 140737488351232) (w1 : (Lit.int .i64 a1).wf = true) (w2 : (Lit.int .u8 a2).wf = true) :
    Calls Try.prog 6 #[.string a0, .int .i64 a1, .int .u8 a2] w fun e w' => e = .returned (.bool true) ∧ Below w.heap.size w w' := by
  obtain ⟨k, h⟩ := P a0 a1 a2 w0 w1 w2
  refine (aviarylaw08_BytesSealed.calls k a0 a1 a2 true w h).mono ?_
  rintro e w' ⟨rfl, hd⟩
  exact ⟨rfl, hd⟩

end Go.Proofs.Ytlebklkckphhdaa.PBytesSealed
