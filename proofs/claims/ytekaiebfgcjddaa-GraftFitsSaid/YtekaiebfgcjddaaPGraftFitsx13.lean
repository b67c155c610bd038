/- A text of the session: functions of the program and their walks, laid by a program of its own (wip/tools/mkprint.py) over the translation. No condition. -/
import Derived.Test.YtekaiebfgcjddaaPGraftFitsx0
import Derived.Test.YtekaiebfgcjddaaPGraftFitsx1
import Derived.Test.YtekaiebfgcjddaaPGraftFitsx2
import Derived.Test.YtekaiebfgcjddaaPGraftFitsx4
import Derived.Test.YtekaiebfgcjddaaPGraftFitsx5
import Derived.Test.YtekaiebfgcjddaaPGraftFitsx6
import Derived.Test.YtekaiebfgcjddaaPGraftFitsx7
import Derived.Test.YtekaiebfgcjddaaPGraftFitsx10
import Derived.Test.YtekaiebfgcjddaaPGraftFitsx12
namespace Go.Proofs.Ytekaiebfgcjddaa.PGraftFits
open Go.RowKit Go.Proofs.YtekaiebfgcjddaaW.PrintWords Go.Proofs.YtekaiebfgcjddaaW.PrintLast Go.Proofs.YtekaiebfgcjddaaW.PrintMore
attribute [local go_sem] max2_int min2_int max_two min_two max_three min_three max_four min_four   -- for this text's walks alone
set_option linter.unusedVariables false
set_option linter.unusedSimpArgs false

/-! ### aviarylaw10_GraftFits: function 9 -/
mutual
def aviarylaw10_GraftFits.j0 : Nat → Bool → Int → Int → List (S59) → Int → Int → Int → Int → Int → Int → Int → Int → Int → Int → Int → Int → Int → Int → Int → Int → Option (Bool)
  | 0, _, _, _, _, _, _, _, _, _, _, _, _, _, _, _, _, _, _, _, _ => none
  | k + 1, x28, x281000, x281001, x281002, x282000, x282001, x282002, x282003, x282004, x282005, x282006, x282007, x283000, x283001, x283002, x283003, x283004, x283005, x283006, x283007 => if x28 = true then (some true) else (if x282002 = x283002 then (aviarylaw10_GraftFits.j1 k (x282000 == x283000) x281000 x281001 x281002 x282000 x282001 x282002 x282003 x282004 x282005 x282006 x282007 x283000 x283001 x283002 x283003 x283004 x283005 x283006 x283007) else (aviarylaw10_GraftFits.j1 k false x281000 x281001 x281002 x282000 x282001 x282002 x282003 x282004 x282005 x282006 x282007 x283000 x283001 x283002 x283003 x283004 x283005 x283006 x283007))
def aviarylaw10_GraftFits.j1 : Nat → Bool → Int → Int → List (S59) → Int → Int → Int → Int → Int → Int → Int → Int → Int → Int → Int → Int → Int → Int → Int → Int → Option (Bool)
  | 0, _, _, _, _, _, _, _, _, _, _, _, _, _, _, _, _, _, _, _, _ => none
  | k + 1, x7, x281000, x281001, x281002, x282000, x282001, x282002, x282003, x282004, x282005, x282006, x282007, x283000, x283001, x283002, x283003, x283004, x283005, x283006, x283007 => (aviarylaw10_Own.f x281000 x281001 x281002).bind fun bt286 => ((graft_Encode.f k bt286.1 bt286.2.1 bt286.2.2 x282000 x282001 x282002 x282003 x282004 x282005 x282006 x282007).bind fun bt291 => ((graft_Decode.f k bt291.1 x283000 x283001 x283002 x283003 x283004 x283005 x283006 x283007).bind fun bt293 => (if bt291.2 = 0 then ((aviarylaw10_Own.f x281000 x281001 x281002).bind fun bt300 => ((graft_Check.f k bt300.1 bt300.2.1 bt300.2.2 x283000 x283001 x283002 x283003 x283004 x283005 x283006 x283007).bind fun t305 => (if ((t305 == 0) != x7) = true then (none) else (if x7 = true then (if bt293.2.2.2 = 0 then ((aviaryref10_Same.f bt293.1 bt293.2.1 bt293.2.2.1 x281000 x281001 x281002).bind fun t306 => (some t306)) else (none)) else (some true))))) else (none))))
end
def aviarylaw10_GraftFits.f (k : Nat) (a0_0 : Int) (a0_1 : Int) (l0_2 : List (S59)) (a1_0 : Int) (a1_1 : Int) (a1_2 : Int) (a1_3 : Int) (a1_4 : Int) (a1_5 : Int) (a1_6 : Int) (a1_7 : Int) (a2_0 : Int) (a2_1 : Int) (a2_2 : Int) (a2_3 : Int) (a2_4 : Int) (a2_5 : Int) (a2_6 : Int) (a2_7 : Int) : Option (Bool) := (aviarylaw10_works.f k).bind fun t283 => (if t283 = true then (if (l0_2.length : Int) > 20 then (aviarylaw10_GraftFits.j0 k true a0_0 a0_1 l0_2 a1_0 a1_1 a1_2 a1_3 a1_4 a1_5 a1_6 a1_7 a2_0 a2_1 a2_2 a2_3 a2_4 a2_5 a2_6 a2_7) else ((aviaryref10_Check.f k a0_0 a0_1 l0_2 a1_0 a1_1 a1_2 a1_3 a1_4 a1_5 a1_6 a1_7).bind fun t284 => (if t284 = 0 then ((aviaryref09_Config.f k a2_0 a2_1 a2_2 a2_3 a2_4 a2_5 a2_6 a2_7).bind fun t285 => (aviarylaw10_GraftFits.j0 k (!t285) a0_0 a0_1 l0_2 a1_0 a1_1 a1_2 a1_3 a1_4 a1_5 a1_6 a1_7 a2_0 a2_1 a2_2 a2_3 a2_4 a2_5 a2_6 a2_7)) else (aviarylaw10_GraftFits.j0 k true a0_0 a0_1 l0_2 a1_0 a1_1 a1_2 a1_3 a1_4 a1_5 a1_6 a1_7 a2_0 a2_1 a2_2 a2_3 a2_4 a2_5 a2_6 a2_7)))) else (none))
theorem aviarylaw10_GraftFits.mono_l : ∀ k, (∀ y0 y1 y2 y3 y4 y5 y6 y7 y8 y9 y10 y11 y12 y13 y14 y15 y16 y17 y18 y19, LeO (aviarylaw10_GraftFits.j0 k y0 y1 y2 y3 y4 y5 y6 y7 y8 y9 y10 y11 y12 y13 y14 y15 y16 y17 y18 y19) (aviarylaw10_GraftFits.j0 (k + 1) y0 y1 y2 y3 y4 y5 y6 y7 y8 y9 y10 y11 y12 y13 y14 y15 y16 y17 y18 y19)) ∧ (∀ y0 y1 y2 y3 y4 y5 y6 y7 y8 y9 y10 y11 y12 y13 y14 y15 y16 y17 y18 y19, LeO (aviarylaw10_GraftFits.j1 k y0 y1 y2 y3 y4 y5 y6 y7 y8 y9 y10 y11 y12 y13 y14 y15 y16 y17 y18 y19) (aviarylaw10_GraftFits.j1 (k + 1) y0 y1 y2 y3 y4 y5 y6 y7 y8 y9 y10 y11 y12 y13 y14 y15 y16 y17 y18 y19))
  | 0 => ⟨fun _ _ _ _ _ _ _ _ _ _ _ _ _ _ _ _ _ _ _ _ r h => by simp [aviarylaw10_GraftFits.j0] at h, fun _ _ _ _ _ _ _ _ _ _ _ _ _ _ _ _ _ _ _ _ r h => by simp [aviarylaw10_GraftFits.j1] at h⟩
  | k + 1 => by
    obtain ⟨ih0, ih1⟩ := aviarylaw10_GraftFits.mono_l k
    refine ⟨?_, ?_⟩
    · intro y0 y1 y2 y3 y4 y5 y6 y7 y8 y9 y10 y11 y12 y13 y14 y15 y16 y17 y18 y19
      unfold aviarylaw10_GraftFits.j0
      repeat' first
      | (with_reducible exact ih0 _ _ _ _ _ _ _ _ _ _ _ _ _ _ _ _ _ _ _ _)
      | (with_reducible exact ih1 _ _ _ _ _ _ _ _ _ _ _ _ _ _ _ _ _ _ _ _)
      | (with_reducible exact aviarylaw10_works.mono _)
      | (with_reducible exact aviaryref09_Config.mono _ _ _ _ _ _ _ _ _)
      | (with_reducible exact aviaryref10_Check.mono _ _ _ _ _ _ _ _ _ _ _ _)
      | (with_reducible exact graft_Check.mono _ _ _ _ _ _ _ _ _ _ _ _)
      | (with_reducible exact graft_Decode.mono _ _ _ _ _ _ _ _ _ _)
      | (with_reducible exact graft_Encode.mono _ _ _ _ _ _ _ _ _ _ _ _)
      | (with_reducible exact LeO.refl _)
      | (with_reducible exact LeO.none _)
      | (with_reducible refine LeO.ite ?_ ?_)
      | (with_reducible refine LeO.bind ?_ (fun _ => ?_))
      | exact ih0 _ _ _ _ _ _ _ _ _ _ _ _ _ _ _ _ _ _ _ _
      | exact ih1 _ _ _ _ _ _ _ _ _ _ _ _ _ _ _ _ _ _ _ _
      | exact aviarylaw10_works.mono _
      | exact aviaryref09_Config.mono _ _ _ _ _ _ _ _ _
      | exact aviaryref10_Check.mono _ _ _ _ _ _ _ _ _ _ _ _
      | exact graft_Check.mono _ _ _ _ _ _ _ _ _ _ _ _
      | exact graft_Decode.mono _ _ _ _ _ _ _ _ _ _
      | exact graft_Encode.mono _ _ _ _ _ _ _ _ _ _ _ _
      | exact LeO.none _
      | refine LeO.ite ?_ ?_
      | refine LeO.bind ?_ (fun _ => ?_)
    · intro y0 y1 y2 y3 y4 y5 y6 y7 y8 y9 y10 y11 y12 y13 y14 y15 y16 y17 y18 y19
      unfold aviarylaw10_GraftFits.j1
      repeat' first
      | (with_reducible exact ih0 _ _ _ _ _ _ _ _ _ _ _ _ _ _ _ _ _ _ _ _)
      | (with_reducible exact ih1 _ _ _ _ _ _ _ _ _ _ _ _ _ _ _ _ _ _ _ _)
      | (with_reducible exact aviarylaw10_works.mono _)
      | (with_reducible exact aviaryref09_Config.mono _ _ _ _ _ _ _ _ _)
      | (with_reducible exact aviaryref10_Check.mono _ _ _ _ _ _ _ _ _ _ _ _)
      | (with_reducible exact graft_Check.mono _ _ _ _ _ _ _ _ _ _ _ _)
      | (with_reducible exact graft_Decode.mono _ _ _ _ _ _ _ _ _ _)
      | (with_reducible exact graft_Encode.mono _ _ _ _ _ _ _ _ _ _ _ _)
      | (with_reducible exact LeO.refl _)
      | (with_reducible exact LeO.none _)
      | (with_reducible refine LeO.ite ?_ ?_)
      | (with_reducible refine LeO.bind ?_ (fun _ => ?_))
      | exact ih0 _ _ _ _ _ _ _ _ _ _ _ _ _ _ _ _ _ _ _ _
      | exact ih1 _ _ _ _ _ _ _ _ _ _ _ _ _ _ _ _ _ _ _ _
      | exact aviarylaw10_works.mono _
      | exact aviaryref09_Config.mono _ _ _ _ _ _ _ _ _
      | exact aviaryref10_Check.mono _ _ _ _ _ _ _ _ _ _ _ _
      | exact graft_Check.mono _ _ _ _ _ _ _ _ _ _ _ _
      | exact graft_Decode.mono _ _ _ _ _ _ _ _ _ _
      | exact graft_Encode.mono _ _ _ _ _ _ _ _ _ _ _ _
      | exact LeO.none _
      | refine LeO.ite ?_ ?_
      | refine LeO.bind ?_ (fun _ => ?_)
theorem aviarylaw10_GraftFits.mono : ∀ a0 a1 a2 a3 a4 a5 a6 a7 a8 a9 a10 a11 a12 a13 a14 a15 a16 a17 a18 k, LeO (aviarylaw10_GraftFits.f k a0 a1 a2 a3 a4 a5 a6 a7 a8 a9 a10 a11 a12 a13 a14 a15 a16 a17 a18) (aviarylaw10_GraftFits.f (k + 1) a0 a1 a2 a3 a4 a5 a6 a7 a8 a9 a10 a11 a12 a13 a14 a15 a16 a17 a18) := by
  intro a0 a1 a2 a3 a4 a5 a6 a7 a8 a9 a10 a11 a12 a13 a14 a15 a16 a17 a18 k
  obtain ⟨ih0, ih1⟩ := aviarylaw10_GraftFits.mono_l k
  unfold aviarylaw10_GraftFits.f
  repeat' first
      | (with_reducible exact ih0 _ _ _ _ _ _ _ _ _ _ _ _ _ _ _ _ _ _ _ _)
      | (with_reducible exact ih1 _ _ _ _ _ _ _ _ _ _ _ _ _ _ _ _ _ _ _ _)
      | (with_reducible exact aviarylaw10_works.mono _)
      | (with_reducible exact aviaryref09_Config.mono _ _ _ _ _ _ _ _ _)
      | (with_reducible exact aviaryref10_Check.mono _ _ _ _ _ _ _ _ _ _ _ _)
      | (with_reducible exact graft_Check.mono _ _ _ _ _ _ _ _ _ _ _ _)
      | (with_reducible exact graft_Decode.mono _ _ _ _ _ _ _ _ _ _)
      | (with_reducible exact graft_Encode.mono _ _ _ _ _ _ _ _ _ _ _ _)
      | (with_reducible exact LeO.refl _)
      | (with_reducible exact LeO.none _)
      | (with_reducible refine LeO.ite ?_ ?_)
      | (with_reducible refine LeO.bind ?_ (fun _ => ?_))
      | exact ih0 _ _ _ _ _ _ _ _ _ _ _ _ _ _ _ _ _ _ _ _
      | exact ih1 _ _ _ _ _ _ _ _ _ _ _ _ _ _ _ _ _ _ _ _
      | exact aviarylaw10_works.mono _
      | exact aviaryref09_Config.mono _ _ _ _ _ _ _ _ _
      | exact aviaryref10_Check.mono _ _ _ _ _ _ _ _ _ _ _ _
      | exact graft_Check.mono _ _ _ _ _ _ _ _ _ _ _ _
      | exact graft_Decode.mono _ _ _ _ _ _ _ _ _ _
      | exact graft_Encode.mono _ _ _ _ _ _ _ _ _ _ _ _
      | exact LeO.none _
      | refine LeO.ite ?_ ?_
      | refine LeO.bind ?_ (fun _ => ?_)
def aviarylaw10_GraftFits.T6 : Bool × List (List Nat × List Nat) := (true, [([], []), ([0], [0]), ([], []), ([1, 2, 1], [1, 2]), ([3], [3]), ([4], [4]), ([4], [4]), ([5, 3, 0, 1, 2, 3, 4, 5], [5]), ([6, 7, 0, 1, 2, 3, 4, 5, 6, 7], [6])])
def aviarylaw10_GraftFits.B6 : List Nat := [0, 1, 0, 7, 15, 31, 31, 63, 255]
theorem aviarylaw10_GraftFits.tab6 : rtab .any (opsOf Try.f9 6) = aviarylaw10_GraftFits.T6 := by kernel_rfl
theorem aviarylaw10_GraftFits.bits6 : waitsOk aviarylaw10_GraftFits.T6.2 aviarylaw10_GraftFits.B6 = true := by kernel_rfl
def aviarylaw10_GraftFits.T8 : Bool × List (List Nat × List Nat) := (true, [([], []), ([0], [0]), ([1], [1]), ([2], [2]), ([3, 2, 2], [2, 3]), ([2], [2]), ([4, 5, 4, 2], [2, 4, 5]), ([6, 2], [2, 6]), ([2], [2]), ([7, 8, 2], [2, 7, 8]), ([2, 9], [2, 9])])
def aviarylaw10_GraftFits.B8 : List Nat := [0, 1, 3, 7, 15, 7, 63, 127, 7, 511, 1023]
theorem aviarylaw10_GraftFits.tab8 : rtab .any (opsOf Try.f9 8) = aviarylaw10_GraftFits.T8 := by kernel_rfl
theorem aviarylaw10_GraftFits.bits8 : waitsOk aviarylaw10_GraftFits.T8.2 aviarylaw10_GraftFits.B8 = true := by kernel_rfl
set_option maxHeartbeats 8000000 in
set_option maxRecDepth 100000 in
theorem aviarylaw10_GraftFits.calls (k : Nat) (a0_0 : Int) (a0_1 : Int) (A0_2 : Option Addr) (c0_2 : Nat) (l0_2 : List (S59)) (a1_0 : Int) (a1_1 : Int) (a1_2 : Int) (a1_3 : Int) (a1_4 : Int) (a1_5 : Int) (a1_6 : Int) (a1_7 : Int) (a2_0 : Int) (a2_1 : Int) (a2_2 : Int) (a2_3 : Int) (a2_4 : Int) (a2_5 : Int) (a2_6 : Int) (a2_7 : Int) (r : Bool) (w : World) (hr0_2 : Kd.C k59 w A0_2 l0_2.length l0_2) (hc0_2 : l0_2.length ≤ c0_2) (h : aviarylaw10_GraftFits.f k a0_0 a0_1 l0_2 a1_0 a1_1 a1_2 a1_3 a1_4 a1_5 a1_6 a1_7 a2_0 a2_1 a2_2 a2_3 a2_4 a2_5 a2_6 a2_7 = some r) :
    Calls Try.prog 9 #[.agg #[.int .i64 a0_0, .int .i64 a0_1, .slice A0_2 l0_2.length c0_2], .agg #[.int .i64 a1_0, .int .i64 a1_1, .int .i64 a1_2, .int .i64 a1_3, .int .i64 a1_4, .int .i64 a1_5, .int .i64 a1_6, .int .i64 a1_7], .agg #[.int .i64 a2_0, .int .i64 a2_1, .int .i64 a2_2, .int .i64 a2_3, .int .i64 a2_4, .int .i64 a2_5, .int .i64 a2_6, .int .i64 a2_7]] w fun e w' => e = .returned (.bool r) ∧ Below w.heap.size w w' := by
  have hu27 := Try.underlying27
  have hu23 := Try.underlying23
  have HR0_2 := Aside0.mk hr0_2
  have HC0_2 := Aside0.mk hc0_2
  clear hr0_2 hc0_2
  have HB := Aside0.mk (Below.refl w.heap.size w)
  have H : ((aviarylaw10_works.f k).bind fun t283 => (if t283 = true then (if (l0_2.length : Int) > 20 then (aviarylaw10_GraftFits.j0 k true a0_0 a0_1 l0_2 a1_0 a1_1 a1_2 a1_3 a1_4 a1_5 a1_6 a1_7 a2_0 a2_1 a2_2 a2_3 a2_4 a2_5 a2_6 a2_7) else ((aviaryref10_Check.f k a0_0 a0_1 l0_2 a1_0 a1_1 a1_2 a1_3 a1_4 a1_5 a1_6 a1_7).bind fun t284 => (if t284 = 0 then ((aviaryref09_Config.f k a2_0 a2_1 a2_2 a2_3 a2_4 a2_5 a2_6 a2_7).bind fun t285 => (aviarylaw10_GraftFits.j0 k (!t285) a0_0 a0_1 l0_2 a1_0 a1_1 a1_2 a1_3 a1_4 a1_5 a1_6 a1_7 a2_0 a2_1 a2_2 a2_3 a2_4 a2_5 a2_6 a2_7)) else (aviarylaw10_GraftFits.j0 k true a0_0 a0_1 l0_2 a1_0 a1_1 a1_2 a1_3 a1_4 a1_5 a1_6 a1_7 a2_0 a2_1 a2_2 a2_3 a2_4 a2_5 a2_6 a2_7)))) else (none))) = some r := h
  clear h
  replace H := Option.bind_eq_some_iff.mp H
  obtain ⟨t283, A40, H⟩ := H
  replace H : (if t283 = true then (if (l0_2.length : Int) > 20 then (aviarylaw10_GraftFits.j0 k true a0_0 a0_1 l0_2 a1_0 a1_1 a1_2 a1_3 a1_4 a1_5 a1_6 a1_7 a2_0 a2_1 a2_2 a2_3 a2_4 a2_5 a2_6 a2_7) else ((aviaryref10_Check.f k a0_0 a0_1 l0_2 a1_0 a1_1 a1_2 a1_3 a1_4 a1_5 a1_6 a1_7).bind fun t284 => (if t284 = 0 then ((aviaryref09_Config.f k a2_0 a2_1 a2_2 a2_3 a2_4 a2_5 a2_6 a2_7).bind fun t285 => (aviarylaw10_GraftFits.j0 k (!t285) a0_0 a0_1 l0_2 a1_0 a1_1 a1_2 a1_3 a1_4 a1_5 a1_6 a1_7 a2_0 a2_1 a2_2 a2_3 a2_4 a2_5 a2_6 a2_7)) else (aviarylaw10_GraftFits.j0 k true a0_0 a0_1 l0_2 a1_0 a1_1 a1_2 a1_3 a1_4 a1_5 a1_6 a1_7 a2_0 a2_1 a2_2 a2_3 a2_4 a2_5 a2_6 a2_7)))) else (none)) = some r := H
  have A4 := Aside0.mk A40
  clear A40
  by_cases c5 : t283 = true
  · subst c5
    have H1 : (if (l0_2.length : Int) > 20 then (aviarylaw10_GraftFits.j0 k true a0_0 a0_1 l0_2 a1_0 a1_1 a1_2 a1_3 a1_4 a1_5 a1_6 a1_7 a2_0 a2_1 a2_2 a2_3 a2_4 a2_5 a2_6 a2_7) else ((aviaryref10_Check.f k a0_0 a0_1 l0_2 a1_0 a1_1 a1_2 a1_3 a1_4 a1_5 a1_6 a1_7).bind fun t284 => (if t284 = 0 then ((aviaryref09_Config.f k a2_0 a2_1 a2_2 a2_3 a2_4 a2_5 a2_6 a2_7).bind fun t285 => (aviarylaw10_GraftFits.j0 k (!t285) a0_0 a0_1 l0_2 a1_0 a1_1 a1_2 a1_3 a1_4 a1_5 a1_6 a1_7 a2_0 a2_1 a2_2 a2_3 a2_4 a2_5 a2_6 a2_7)) else (aviarylaw10_GraftFits.j0 k true a0_0 a0_1 l0_2 a1_0 a1_1 a1_2 a1_3 a1_4 a1_5 a1_6 a1_7 a2_0 a2_1 a2_2 a2_3 a2_4 a2_5 a2_6 a2_7)))) = some r := by rw [if_pos rfl] at H; exact H
    clear H
    have H := H1
    clear H1
    have HC6 := Aside0.mk H
    clear H
    go_enter Try.func9, Try.ntmps9
    go_upto_region 3 with (first | ((with_reducible refine gate_dst (N := 3) rfl ?_); refine box_event ?hg (N := 3) ?hd (cs := #[.int .i64 a0_0, .int .i64 a0_1, .slice A0_2 l0_2.length c0_2]) (t := 27) ?hr ?_; (case hd => rfl); (case hg => rfl); (case hr => first | (go_simp; done) | (go_simp; rfl)); intro gb280 hg w7 hbox hb; have n0_ := Aside0.mk (below_step by_ hb); have n1_ := Aside0.mk (hbox); have n2_ := Aside0.mk ((by rw [hg]; exact (below_size by_) : w.heap.size ≤ gb280)); have n3_ := Aside0.mk ((by rw [hg]; exact (below_size by_) : w.heap.size ≤ gb280)); clear HB; have HB := n0_; have BK280 := n1_; have GW280 := n2_; have GE280 := n3_; clear n0_ n1_ n2_ n3_; clear hb hbox hg) | ((with_reducible refine gate_dst (N := 4) rfl ?_); refine box_event ?hg (N := 4) ?hd (cs := #[.int .i64 a1_0, .int .i64 a1_1, .int .i64 a1_2, .int .i64 a1_3, .int .i64 a1_4, .int .i64 a1_5, .int .i64 a1_6, .int .i64 a1_7]) (t := 23) ?hr ?_; (case hd => rfl); (case hg => rfl); (case hr => first | (go_simp; done) | (go_simp; rfl)); intro gb281 hg w8 hbox hb; have n0_ := Aside0.mk (blk_below (bkl_ BK280.out) hb); have n1_ := Aside0.mk (below_step by_ hb); have n2_ := Aside0.mk (hbox); have n3_ := Aside0.mk ((by rw [hg]; exact (below_size by_) : w.heap.size ≤ gb281)); have n4_ := Aside0.mk ((by rw [hg]; exact (below_size by_) : w.heap.size ≤ gb281)); have n5_ := Aside0.mk ((by rw [hg]; exact Nat.ne_of_lt (blk_lt (bkl_ BK280.out)) : gb280 ≠ gb281)); have n6_ := Aside0.mk ((by rw [hg]; exact Nat.ne_of_gt (blk_lt (bkl_ BK280.out)) : gb281 ≠ gb280)); clear BK280; clear HB; have BK280 := n0_; have HB := n1_; have BK281 := n2_; have GW281 := n3_; have GE281 := n4_; have NB280_281 := n5_; have NB281_280 := n6_; clear n0_ n1_ n2_ n3_ n4_ n5_ n6_; clear hb hbox hg) | ((with_reducible refine gate_dst (N := 5) rfl ?_); refine box_event ?hg (N := 5) ?hd (cs := #[.int .i64 a2_0, .int .i64 a2_1, .int .i64 a2_2, .int .i64 a2_3, .int .i64 a2_4, .int .i64 a2_5, .int .i64 a2_6, .int .i64 a2_7]) (t := 23) ?hr ?_; (case hd => rfl); (case hg => rfl); (case hr => first | (go_simp; done) | (go_simp; rfl)); intro gb282 hg w9 hbox hb; have n0_ := Aside0.mk (blk_below (bkl_ BK280.out) hb); have n1_ := Aside0.mk (blk_below (bkl_ BK281.out) hb); have n2_ := Aside0.mk (below_step by_ hb); have n3_ := Aside0.mk (hbox); have n4_ := Aside0.mk ((by rw [hg]; exact (below_size by_) : w.heap.size ≤ gb282)); have n5_ := Aside0.mk ((by rw [hg]; exact (below_size by_) : w.heap.size ≤ gb282)); have n6_ := Aside0.mk ((by rw [hg]; exact Nat.ne_of_lt (blk_lt (bkl_ BK280.out)) : gb280 ≠ gb282)); have n7_ := Aside0.mk ((by rw [hg]; exact Nat.ne_of_gt (blk_lt (bkl_ BK280.out)) : gb282 ≠ gb280)); have n8_ := Aside0.mk ((by rw [hg]; exact Nat.ne_of_lt (blk_lt (bkl_ BK281.out)) : gb281 ≠ gb282)); have n9_ := Aside0.mk ((by rw [hg]; exact Nat.ne_of_gt (blk_lt (bkl_ BK281.out)) : gb282 ≠ gb281)); clear BK280; clear BK281; clear HB; have BK280 := n0_; have BK281 := n1_; have HB := n2_; have BK282 := n3_; have GW282 := n4_; have GE282 := n5_; have NB280_282 := n6_; have NB282_280 := n7_; have NB281_282 := n8_; have NB282_281 := n9_; clear n0_ n1_ n2_ n3_ n4_ n5_ n6_ n7_ n8_ n9_; clear hb hbox hg) | ((with_reducible refine gate_callee (f := 26) rfl ?_); refine goesL_ (some 12) rfl rfl Try.func26 (by kernel_rfl) rfl #[] rfl ar_ ?_; (with_reducible refine (aviarylaw10_works.calls k  true _ A4.out).mono ?_); rintro e w10 ⟨rfl, hb⟩; refine ⟨_, rfl, ?_⟩; have n0_ := Aside0.mk (blk_below (bkl_ BK280.out) hb); have n1_ := Aside0.mk (blk_below (bkl_ BK281.out) hb); have n2_ := Aside0.mk (blk_below (bkl_ BK282.out) hb); have n3_ := Aside0.mk (below_step by_ hb); clear BK280; clear BK281; clear BK282; clear HB; have BK280 := n0_; have BK281 := n1_; have BK282 := n2_; have HB := n3_; clear n0_ n1_ n2_ n3_; (try clear hb); (try clear hb2); (try clear hk); (try clear hi)))
    (try simp only [Act.put, List.setIfInBounds_toArray, List.set_cons_zero, List.set_cons_succ])
    go_cut [28] (fun v28 wc => ∃ (kq : Nat) (x28_5 : Bool), v28 = .bool x28_5 ∧ Aside0 (aviarylaw10_GraftFits.j0 kq x28_5 a0_0 a0_1 l0_2 a1_0 a1_1 a1_2 a1_3 a1_4 a1_5 a1_6 a1_7 a2_0 a2_1 a2_2 a2_3 a2_4 a2_5 a2_6 a2_7 = some r) ∧ Aside0 (kq ≤ k) ∧ Aside0 (wc.heap[gb280]? = some (.cells #[.int .i64 a0_0, .int .i64 a0_1, (.slice A0_2 l0_2.length c0_2)] 27 (0, 0))) ∧ Aside0 (wc.heap[gb281]? = some (.cells #[.int .i64 a1_0, .int .i64 a1_1, .int .i64 a1_2, .int .i64 a1_3, .int .i64 a1_4, .int .i64 a1_5, .int .i64 a1_6, .int .i64 a1_7] 23 (0, 0))) ∧ Aside0 (wc.heap[gb282]? = some (.cells #[.int .i64 a2_0, .int .i64 a2_1, .int .i64 a2_2, .int .i64 a2_3, .int .i64 a2_4, .int .i64 a2_5, .int .i64 a2_6, .int .i64 a2_7] 23 (0, 0))) ∧ Aside0 (Below w.heap.size w wc))
    case first =>
      have H := HC6.out
      clear HC6
      by_cases c11 : (l0_2.length : Int) > 20
      · rw [if_pos c11] at H
        have c11b0 : decide (20 < (l0_2.length : Int)) = true := decide_eq_true c11
        have c11b1 : decide (20 < l0_2.length) = true := decide_eq_true (by omega)
        clear c11
        (first | rw [c11b0] | (simp only [i64_w, i32_w]; rw [c11b0]) | skip)
        have H' := Aside0.mk H
        clear H
        have hnb12 := NB280_281.out
        have hnc12 := NB281_280.out
        have hnb13 := NB280_282.out
        have hnc13 := NB282_280.out
        have hcz14_0 : w10.cell? ⟨gb280, 0, none⟩ = some (.int .i64 a0_0) := (blk_cell BK280.out 0).trans rfl
        have hcz14_1 : w10.cell? ⟨gb280, 1, none⟩ = some (.int .i64 a0_1) := (blk_cell BK280.out 1).trans rfl
        have hcz14_2 : w10.cell? ⟨gb280, 2, none⟩ = some (.slice A0_2 l0_2.length c0_2) := (blk_cell BK280.out 2).trans rfl
        have hfz14_0 := blk_frozen BK280.out 0
        have hfz14_1 := blk_frozen BK280.out 1
        have hfz14_2 := blk_frozen BK280.out 2
        go_wp2
        go_meet
        case rel => exact ⟨_, (true), (by first | rfl | (simp; done) | (simp [*]; done)), H', ⟨by first | omega | exact Nat.le_refl _⟩, ⟨by (with_reducible repeat (first | refine blk_drewN ?_ _ | refine blk_drew ?_ | refine blk_alloc ?_ _)); exact BK280.out⟩, ⟨by (with_reducible repeat (first | refine blk_drewN ?_ _ | refine blk_drew ?_ | refine blk_alloc ?_ _)); exact BK281.out⟩, ⟨by (with_reducible repeat (first | refine blk_drewN ?_ _ | refine blk_drew ?_ | refine blk_alloc ?_ _)); exact BK282.out⟩, ⟨by repeat (first | (with_reducible first | exact HB.out | apply below_alloc | apply pw_below_drewN | apply below_drew1 | refine below_set ?_ GE280.out | refine below_set ?_ GE281.out | refine below_set ?_ GE282.out) | exact HB.out)⟩⟩
      · rw [if_neg c11] at H
        have c11b0 : decide (20 < (l0_2.length : Int)) = false := decide_eq_false c11
        have c11b1 : decide (20 < l0_2.length) = false := decide_eq_false (by omega)
        clear c11
        (first | rw [c11b0] | (simp only [i64_w, i32_w]; rw [c11b0]) | skip)
        replace H := Option.bind_eq_some_iff.mp H
        obtain ⟨t284, A150, H⟩ := H
        replace H : (if t284 = 0 then ((aviaryref09_Config.f k a2_0 a2_1 a2_2 a2_3 a2_4 a2_5 a2_6 a2_7).bind fun t285 => (aviarylaw10_GraftFits.j0 k (!t285) a0_0 a0_1 l0_2 a1_0 a1_1 a1_2 a1_3 a1_4 a1_5 a1_6 a1_7 a2_0 a2_1 a2_2 a2_3 a2_4 a2_5 a2_6 a2_7)) else (aviarylaw10_GraftFits.j0 k true a0_0 a0_1 l0_2 a1_0 a1_1 a1_2 a1_3 a1_4 a1_5 a1_6 a1_7 a2_0 a2_1 a2_2 a2_3 a2_4 a2_5 a2_6 a2_7)) = some r := H
        have A15 := Aside0.mk A150
        clear A150
        by_cases c16 : t284 = 0
        · rw [if_pos c16] at H
          have c16b0 : (t284 == 0) = true := beq_iff_eq.mpr c16
          have c16b1 : (t284 != 0) = false := bne_eq_false_iff_eq.mpr c16
          clear c16
          replace H := Option.bind_eq_some_iff.mp H
          obtain ⟨t285, A170, H⟩ := H
          replace H : (aviarylaw10_GraftFits.j0 k (!t285) a0_0 a0_1 l0_2 a1_0 a1_1 a1_2 a1_3 a1_4 a1_5 a1_6 a1_7 a2_0 a2_1 a2_2 a2_3 a2_4 a2_5 a2_6 a2_7) = some r := H
          have A17 := Aside0.mk A170
          clear A170
          have H' := Aside0.mk H
          clear H
          have hnb18 := NB280_281.out
          have hnc18 := NB281_280.out
          have hnb19 := NB280_282.out
          have hnc19 := NB282_280.out
          have hcz20_0 : w10.cell? ⟨gb280, 0, none⟩ = some (.int .i64 a0_0) := (blk_cell BK280.out 0).trans rfl
          have hcz20_1 : w10.cell? ⟨gb280, 1, none⟩ = some (.int .i64 a0_1) := (blk_cell BK280.out 1).trans rfl
          have hcz20_2 : w10.cell? ⟨gb280, 2, none⟩ = some (.slice A0_2 l0_2.length c0_2) := (blk_cell BK280.out 2).trans rfl
          have hfz20_0 := blk_frozen BK280.out 0
          have hfz20_1 := blk_frozen BK280.out 1
          have hfz20_2 := blk_frozen BK280.out 2
          have hnb21 := NB281_282.out
          have hnc21 := NB282_281.out
          have hcz22_0 : w10.cell? ⟨gb281, 0, none⟩ = some (.int .i64 a1_0) := (blk_cell BK281.out 0).trans rfl
          have hcz22_1 : w10.cell? ⟨gb281, 1, none⟩ = some (.int .i64 a1_1) := (blk_cell BK281.out 1).trans rfl
          have hcz22_2 : w10.cell? ⟨gb281, 2, none⟩ = some (.int .i64 a1_2) := (blk_cell BK281.out 2).trans rfl
          have hcz22_3 : w10.cell? ⟨gb281, 3, none⟩ = some (.int .i64 a1_3) := (blk_cell BK281.out 3).trans rfl
          have hcz22_4 : w10.cell? ⟨gb281, 4, none⟩ = some (.int .i64 a1_4) := (blk_cell BK281.out 4).trans rfl
          have hcz22_5 : w10.cell? ⟨gb281, 5, none⟩ = some (.int .i64 a1_5) := (blk_cell BK281.out 5).trans rfl
          have hcz22_6 : w10.cell? ⟨gb281, 6, none⟩ = some (.int .i64 a1_6) := (blk_cell BK281.out 6).trans rfl
          have hcz22_7 : w10.cell? ⟨gb281, 7, none⟩ = some (.int .i64 a1_7) := (blk_cell BK281.out 7).trans rfl
          have hfz22_0 := blk_frozen BK281.out 0
          have hfz22_1 := blk_frozen BK281.out 1
          have hfz22_2 := blk_frozen BK281.out 2
          have hfz22_3 := blk_frozen BK281.out 3
          have hfz22_4 := blk_frozen BK281.out 4
          have hfz22_5 := blk_frozen BK281.out 5
          have hfz22_6 := blk_frozen BK281.out 6
          have hfz22_7 := blk_frozen BK281.out 7
          go_wp2_with (first | (go_at_call 20; (with_reducible refine (aviaryref10_Check.calls k a0_0 a0_1 _ _ l0_2 a1_0 a1_1 a1_2 a1_3 a1_4 a1_5 a1_6 a1_7 t284 _ ?side1 ?side2 A15.out).mono ?_); (case side1 => repeat (first | exact (Kd.C_below HR0_2.out HB.out) | (with_reducible refine Kd.C_alloc ?_ _) | (with_reducible refine Kd.C_drewN ?_ _) | (with_reducible refine Kd.C_drew ?_))); (case side2 => exact HC0_2.out); rintro e w23 ⟨rfl, hb⟩; have n0_ := Aside0.mk (blk_below (bkl_ BK280.out) hb); have n1_ := Aside0.mk (blk_below (bkl_ BK281.out) hb); have n2_ := Aside0.mk (blk_below (bkl_ BK282.out) hb); have n3_ := Aside0.mk (below_step by_ hb); clear BK280; clear BK281; clear BK282; clear HB; have BK280 := n0_; have BK281 := n1_; have BK282 := n2_; have HB := n3_; clear n0_ n1_ n2_ n3_; (try clear hb); (try clear hb2); (try clear hk); (try clear hi); have hcz24_0 : w23.cell? ⟨gb282, 0, none⟩ = some (.int .i64 a2_0) := (blk_cell BK282.out 0).trans rfl; have hcz24_1 : w23.cell? ⟨gb282, 1, none⟩ = some (.int .i64 a2_1) := (blk_cell BK282.out 1).trans rfl; have hcz24_2 : w23.cell? ⟨gb282, 2, none⟩ = some (.int .i64 a2_2) := (blk_cell BK282.out 2).trans rfl; have hcz24_3 : w23.cell? ⟨gb282, 3, none⟩ = some (.int .i64 a2_3) := (blk_cell BK282.out 3).trans rfl; have hcz24_4 : w23.cell? ⟨gb282, 4, none⟩ = some (.int .i64 a2_4) := (blk_cell BK282.out 4).trans rfl; have hcz24_5 : w23.cell? ⟨gb282, 5, none⟩ = some (.int .i64 a2_5) := (blk_cell BK282.out 5).trans rfl; have hcz24_6 : w23.cell? ⟨gb282, 6, none⟩ = some (.int .i64 a2_6) := (blk_cell BK282.out 6).trans rfl; have hcz24_7 : w23.cell? ⟨gb282, 7, none⟩ = some (.int .i64 a2_7) := (blk_cell BK282.out 7).trans rfl; have hfz24_0 := blk_frozen BK282.out 0; have hfz24_1 := blk_frozen BK282.out 1; have hfz24_2 := blk_frozen BK282.out 2; have hfz24_3 := blk_frozen BK282.out 3; have hfz24_4 := blk_frozen BK282.out 4; have hfz24_5 := blk_frozen BK282.out 5; have hfz24_6 := blk_frozen BK282.out 6; have hfz24_7 := blk_frozen BK282.out 7) | (go_at_call 27; (with_reducible refine (aviaryref09_Config.calls k a2_0 a2_1 a2_2 a2_3 a2_4 a2_5 a2_6 a2_7 t285 _ A17.out).mono ?_); rintro e w25 ⟨rfl, hb⟩; have n0_ := Aside0.mk (blk_below (bkl_ BK280.out) hb); have n1_ := Aside0.mk (blk_below (bkl_ BK281.out) hb); have n2_ := Aside0.mk (blk_below (bkl_ BK282.out) hb); have n3_ := Aside0.mk (below_step by_ hb); clear BK280; clear BK281; clear BK282; clear HB; have BK280 := n0_; have BK281 := n1_; have BK282 := n2_; have HB := n3_; clear n0_ n1_ n2_ n3_; (try clear hb); (try clear hb2); (try clear hk); (try clear hi)))
          go_meet
          case rel => exact ⟨_, (!t285), (by first | rfl | (simp; done) | (simp [*]; done)), H', ⟨by first | omega | exact Nat.le_refl _⟩, ⟨by (with_reducible repeat (first | refine blk_drewN ?_ _ | refine blk_drew ?_ | refine blk_alloc ?_ _)); exact BK280.out⟩, ⟨by (with_reducible repeat (first | refine blk_drewN ?_ _ | refine blk_drew ?_ | refine blk_alloc ?_ _)); exact BK281.out⟩, ⟨by (with_reducible repeat (first | refine blk_drewN ?_ _ | refine blk_drew ?_ | refine blk_alloc ?_ _)); exact BK282.out⟩, ⟨by repeat (first | (with_reducible first | exact HB.out | apply below_alloc | apply pw_below_drewN | apply below_drew1 | refine below_set ?_ GE280.out | refine below_set ?_ GE281.out | refine below_set ?_ GE282.out) | exact HB.out)⟩⟩
        · rw [if_neg c16] at H
          have c16b0 : (t284 == 0) = false := beq_eq_false_iff_ne.mpr c16
          have c16b1 : (t284 != 0) = true := bne_iff_ne.mpr c16
          have H' := Aside0.mk H
          clear H
          have hnb26 := NB280_281.out
          have hnc26 := NB281_280.out
          have hnb27 := NB280_282.out
          have hnc27 := NB282_280.out
          have hcz28_0 : w10.cell? ⟨gb280, 0, none⟩ = some (.int .i64 a0_0) := (blk_cell BK280.out 0).trans rfl
          have hcz28_1 : w10.cell? ⟨gb280, 1, none⟩ = some (.int .i64 a0_1) := (blk_cell BK280.out 1).trans rfl
          have hcz28_2 : w10.cell? ⟨gb280, 2, none⟩ = some (.slice A0_2 l0_2.length c0_2) := (blk_cell BK280.out 2).trans rfl
          have hfz28_0 := blk_frozen BK280.out 0
          have hfz28_1 := blk_frozen BK280.out 1
          have hfz28_2 := blk_frozen BK280.out 2
          have hnb29 := NB281_282.out
          have hnc29 := NB282_281.out
          have hcz30_0 : w10.cell? ⟨gb281, 0, none⟩ = some (.int .i64 a1_0) := (blk_cell BK281.out 0).trans rfl
          have hcz30_1 : w10.cell? ⟨gb281, 1, none⟩ = some (.int .i64 a1_1) := (blk_cell BK281.out 1).trans rfl
          have hcz30_2 : w10.cell? ⟨gb281, 2, none⟩ = some (.int .i64 a1_2) := (blk_cell BK281.out 2).trans rfl
          have hcz30_3 : w10.cell? ⟨gb281, 3, none⟩ = some (.int .i64 a1_3) := (blk_cell BK281.out 3).trans rfl
          have hcz30_4 : w10.cell? ⟨gb281, 4, none⟩ = some (.int .i64 a1_4) := (blk_cell BK281.out 4).trans rfl
          have hcz30_5 : w10.cell? ⟨gb281, 5, none⟩ = some (.int .i64 a1_5) := (blk_cell BK281.out 5).trans rfl
          have hcz30_6 : w10.cell? ⟨gb281, 6, none⟩ = some (.int .i64 a1_6) := (blk_cell BK281.out 6).trans rfl
          have hcz30_7 : w10.cell? ⟨gb281, 7, none⟩ = some (.int .i64 a1_7) := (blk_cell BK281.out 7).trans rfl
          have hfz30_0 := blk_frozen BK281.out 0
          have hfz30_1 := blk_frozen BK281.out 1
          have hfz30_2 := blk_frozen BK281.out 2
          have hfz30_3 := blk_frozen BK281.out 3
          have hfz30_4 := blk_frozen BK281.out 4
          have hfz30_5 := blk_frozen BK281.out 5
          have hfz30_6 := blk_frozen BK281.out 6
          have hfz30_7 := blk_frozen BK281.out 7
          go_wp2_with (first | (go_at_call 20; (with_reducible refine (aviaryref10_Check.calls k a0_0 a0_1 _ _ l0_2 a1_0 a1_1 a1_2 a1_3 a1_4 a1_5 a1_6 a1_7 t284 _ ?side1 ?side2 A15.out).mono ?_); (case side1 => repeat (first | exact (Kd.C_below HR0_2.out HB.out) | (with_reducible refine Kd.C_alloc ?_ _) | (with_reducible refine Kd.C_drewN ?_ _) | (with_reducible refine Kd.C_drew ?_))); (case side2 => exact HC0_2.out); rintro e w31 ⟨rfl, hb⟩; have n0_ := Aside0.mk (blk_below (bkl_ BK280.out) hb); have n1_ := Aside0.mk (blk_below (bkl_ BK281.out) hb); have n2_ := Aside0.mk (blk_below (bkl_ BK282.out) hb); have n3_ := Aside0.mk (below_step by_ hb); clear BK280; clear BK281; clear BK282; clear HB; have BK280 := n0_; have BK281 := n1_; have BK282 := n2_; have HB := n3_; clear n0_ n1_ n2_ n3_; (try clear hb); (try clear hb2); (try clear hk); (try clear hi)))
          go_meet
          case rel => exact ⟨_, (true), (by first | rfl | (simp; done) | (simp [*]; done)), H', ⟨by first | omega | exact Nat.le_refl _⟩, ⟨by (with_reducible repeat (first | refine blk_drewN ?_ _ | refine blk_drew ?_ | refine blk_alloc ?_ _)); exact BK280.out⟩, ⟨by (with_reducible repeat (first | refine blk_drewN ?_ _ | refine blk_drew ?_ | refine blk_alloc ?_ _)); exact BK281.out⟩, ⟨by (with_reducible repeat (first | refine blk_drewN ?_ _ | refine blk_drew ?_ | refine blk_alloc ?_ _)); exact BK282.out⟩, ⟨by repeat (first | (with_reducible first | exact HB.out | apply below_alloc | apply pw_below_drewN | apply below_drew1 | refine below_set ?_ GE280.out | refine below_set ?_ GE281.out | refine below_set ?_ GE282.out) | exact HB.out)⟩⟩
    case rest =>
      clear HC6
      try clear c1
      try clear c2
      try clear p2
      try clear c5
      try clear c9
      try clear c11
      try clear c11b0
      try clear c11b1
      try clear c12
      try clear c13
      try clear c16
      try clear c16b0
      try clear c16b1
      try clear c18
      try clear c19
      try clear c21
      try clear c26
      try clear c27
      try clear c29
      try clear hcz14_0
      try clear hcz14_1
      try clear hcz14_2
      try clear hcz20_0
      try clear hcz20_1
      try clear hcz20_2
      try clear hcz22_0
      try clear hcz22_1
      try clear hcz22_2
      try clear hcz22_3
      try clear hcz22_4
      try clear hcz22_5
      try clear hcz22_6
      try clear hcz22_7
      try clear hcz24_0
      try clear hcz24_1
      try clear hcz24_2
      try clear hcz24_3
      try clear hcz24_4
      try clear hcz24_5
      try clear hcz24_6
      try clear hcz24_7
      try clear hcz28_0
      try clear hcz28_1
      try clear hcz28_2
      try clear hcz30_0
      try clear hcz30_1
      try clear hcz30_2
      try clear hcz30_3
      try clear hcz30_4
      try clear hcz30_5
      try clear hcz30_6
      try clear hcz30_7
      try clear hfz14_0
      try clear hfz14_1
      try clear hfz14_2
      try clear hfz20_0
      try clear hfz20_1
      try clear hfz20_2
      try clear hfz22_0
      try clear hfz22_1
      try clear hfz22_2
      try clear hfz22_3
      try clear hfz22_4
      try clear hfz22_5
      try clear hfz22_6
      try clear hfz22_7
      try clear hfz24_0
      try clear hfz24_1
      try clear hfz24_2
      try clear hfz24_3
      try clear hfz24_4
      try clear hfz24_5
      try clear hfz24_6
      try clear hfz24_7
      try clear hfz28_0
      try clear hfz28_1
      try clear hfz28_2
      try clear hfz30_0
      try clear hfz30_1
      try clear hfz30_2
      try clear hfz30_3
      try clear hfz30_4
      try clear hfz30_5
      try clear hfz30_6
      try clear hfz30_7
      obtain ⟨kq, x28_5, rfl, HA, HJ5, BK280, BK281, BK282, HB⟩ := hcut
      cases kq with
      | zero => exact absurd HA.out (by simp [aviarylaw10_GraftFits.j0])
      | succ kj5 =>
        have H := HA.out
        clear HA
        simp only [aviarylaw10_GraftFits.j0] at H
        by_cases c32 : x28_5 = true
        · subst c32
          have H1 : (some true) = some r := by rw [if_pos rfl] at H; exact H
          clear H
          have H := H1
          clear H1
          obtain rfl := Option.some.inj H
          go_wp2
          go_ret
          exact ⟨by first | rfl | (simp [errW_none, errW_some] <;> rfl) | (simp [*, errW_none, errW_some] <;> rfl), by repeat (first | (with_reducible first | exact HB.out | apply below_alloc | apply pw_below_drewN | apply below_drew1 | refine below_set ?_ GE280.out | refine below_set ?_ GE281.out | refine below_set ?_ GE282.out) | exact HB.out)⟩
        · replace c32 := Bool.eq_false_iff.mpr c32
          subst c32
          have H1 : (if a1_2 = a2_2 then (aviarylaw10_GraftFits.j1 kj5 (a1_0 == a2_0) a0_0 a0_1 l0_2 a1_0 a1_1 a1_2 a1_3 a1_4 a1_5 a1_6 a1_7 a2_0 a2_1 a2_2 a2_3 a2_4 a2_5 a2_6 a2_7) else (aviarylaw10_GraftFits.j1 kj5 false a0_0 a0_1 l0_2 a1_0 a1_1 a1_2 a1_3 a1_4 a1_5 a1_6 a1_7 a2_0 a2_1 a2_2 a2_3 a2_4 a2_5 a2_6 a2_7)) = some r := by rw [if_neg (show ¬ (false = true) by decide)] at H; exact H
          clear H
          have H := H1
          clear H1
          have HC33 := Aside0.mk H
          clear H
          go_upto_region 5 with (fail)
          go_cut [7] (fun v7 wc => ∃ (kq : Nat) (x7_32 : Bool), v7 = .bool x7_32 ∧ Aside0 (aviarylaw10_GraftFits.j1 kq x7_32 a0_0 a0_1 l0_2 a1_0 a1_1 a1_2 a1_3 a1_4 a1_5 a1_6 a1_7 a2_0 a2_1 a2_2 a2_3 a2_4 a2_5 a2_6 a2_7 = some r) ∧ Aside0 (kq ≤ kj5) ∧ Aside0 (wc.heap[gb280]? = some (.cells #[.int .i64 a0_0, .int .i64 a0_1, (.slice A0_2 l0_2.length c0_2)] 27 (0, 0))) ∧ Aside0 (wc.heap[gb281]? = some (.cells #[.int .i64 a1_0, .int .i64 a1_1, .int .i64 a1_2, .int .i64 a1_3, .int .i64 a1_4, .int .i64 a1_5, .int .i64 a1_6, .int .i64 a1_7] 23 (0, 0))) ∧ Aside0 (wc.heap[gb282]? = some (.cells #[.int .i64 a2_0, .int .i64 a2_1, .int .i64 a2_2, .int .i64 a2_3, .int .i64 a2_4, .int .i64 a2_5, .int .i64 a2_6, .int .i64 a2_7] 23 (0, 0))) ∧ Aside0 (Below w.heap.size w wc))
          case first =>
            have H := HC33.out
            clear HC33
            by_cases c34 : a1_2 = a2_2
            · rw [if_pos c34] at H
              have c34b0 : (a1_2 == a2_2) = true := beq_iff_eq.mpr c34
              have c34b1 : (a1_2 != a2_2) = false := bne_eq_false_iff_eq.mpr c34
              clear c34
              (first | rw [c34b0] | (simp only [i64_w, i32_w]; rw [c34b0]) | skip)
              have H' := Aside0.mk H
              clear H
              have hnb35 := NB281_280.out
              have hnc35 := NB280_281.out
              have hnb36 := NB281_282.out
              have hnc36 := NB282_281.out
              have hcz37_0 : wc.cell? ⟨gb281, 0, none⟩ = some (.int .i64 a1_0) := (blk_cell BK281.out 0).trans rfl
              have hcz37_1 : wc.cell? ⟨gb281, 1, none⟩ = some (.int .i64 a1_1) := (blk_cell BK281.out 1).trans rfl
              have hcz37_2 : wc.cell? ⟨gb281, 2, none⟩ = some (.int .i64 a1_2) := (blk_cell BK281.out 2).trans rfl
              have hcz37_3 : wc.cell? ⟨gb281, 3, none⟩ = some (.int .i64 a1_3) := (blk_cell BK281.out 3).trans rfl
              have hcz37_4 : wc.cell? ⟨gb281, 4, none⟩ = some (.int .i64 a1_4) := (blk_cell BK281.out 4).trans rfl
              have hcz37_5 : wc.cell? ⟨gb281, 5, none⟩ = some (.int .i64 a1_5) := (blk_cell BK281.out 5).trans rfl
              have hcz37_6 : wc.cell? ⟨gb281, 6, none⟩ = some (.int .i64 a1_6) := (blk_cell BK281.out 6).trans rfl
              have hcz37_7 : wc.cell? ⟨gb281, 7, none⟩ = some (.int .i64 a1_7) := (blk_cell BK281.out 7).trans rfl
              have hfz37_0 := blk_frozen BK281.out 0
              have hfz37_1 := blk_frozen BK281.out 1
              have hfz37_2 := blk_frozen BK281.out 2
              have hfz37_3 := blk_frozen BK281.out 3
              have hfz37_4 := blk_frozen BK281.out 4
              have hfz37_5 := blk_frozen BK281.out 5
              have hfz37_6 := blk_frozen BK281.out 6
              have hfz37_7 := blk_frozen BK281.out 7
              have hnb38 := NB282_280.out
              have hnc38 := NB280_282.out
              have hcz39_0 : wc.cell? ⟨gb282, 0, none⟩ = some (.int .i64 a2_0) := (blk_cell BK282.out 0).trans rfl
              have hcz39_1 : wc.cell? ⟨gb282, 1, none⟩ = some (.int .i64 a2_1) := (blk_cell BK282.out 1).trans rfl
              have hcz39_2 : wc.cell? ⟨gb282, 2, none⟩ = some (.int .i64 a2_2) := (blk_cell BK282.out 2).trans rfl
              have hcz39_3 : wc.cell? ⟨gb282, 3, none⟩ = some (.int .i64 a2_3) := (blk_cell BK282.out 3).trans rfl
              have hcz39_4 : wc.cell? ⟨gb282, 4, none⟩ = some (.int .i64 a2_4) := (blk_cell BK282.out 4).trans rfl
              have hcz39_5 : wc.cell? ⟨gb282, 5, none⟩ = some (.int .i64 a2_5) := (blk_cell BK282.out 5).trans rfl
              have hcz39_6 : wc.cell? ⟨gb282, 6, none⟩ = some (.int .i64 a2_6) := (blk_cell BK282.out 6).trans rfl
              have hcz39_7 : wc.cell? ⟨gb282, 7, none⟩ = some (.int .i64 a2_7) := (blk_cell BK282.out 7).trans rfl
              have hfz39_0 := blk_frozen BK282.out 0
              have hfz39_1 := blk_frozen BK282.out 1
              have hfz39_2 := blk_frozen BK282.out 2
              have hfz39_3 := blk_frozen BK282.out 3
              have hfz39_4 := blk_frozen BK282.out 4
              have hfz39_5 := blk_frozen BK282.out 5
              have hfz39_6 := blk_frozen BK282.out 6
              have hfz39_7 := blk_frozen BK282.out 7
              go_wp2
              go_meet
              case rel => exact ⟨_, ((a1_0 == a2_0)), (by first | rfl | (simp; done) | (simp [*]; done)), H', ⟨by have := HJ5.out; first | omega | exact Nat.le_refl _⟩, ⟨by (with_reducible repeat (first | refine blk_drewN ?_ _ | refine blk_drew ?_ | refine blk_alloc ?_ _)); exact BK280.out⟩, ⟨by (with_reducible repeat (first | refine blk_drewN ?_ _ | refine blk_drew ?_ | refine blk_alloc ?_ _)); exact BK281.out⟩, ⟨by (with_reducible repeat (first | refine blk_drewN ?_ _ | refine blk_drew ?_ | refine blk_alloc ?_ _)); exact BK282.out⟩, ⟨by repeat (first | (with_reducible first | exact HB.out | apply below_alloc | apply pw_below_drewN | apply below_drew1 | refine below_set ?_ GE280.out | refine below_set ?_ GE281.out | refine below_set ?_ GE282.out) | exact HB.out)⟩⟩
            · rw [if_neg c34] at H
              have c34b0 : (a1_2 == a2_2) = false := beq_eq_false_iff_ne.mpr c34
              have c34b1 : (a1_2 != a2_2) = true := bne_iff_ne.mpr c34
              (first | rw [c34b0] | (simp only [i64_w, i32_w]; rw [c34b0]) | skip)
              have H' := Aside0.mk H
              clear H
              have hnb40 := NB281_280.out
              have hnc40 := NB280_281.out
              have hnb41 := NB281_282.out
              have hnc41 := NB282_281.out
              have hcz42_0 : wc.cell? ⟨gb281, 0, none⟩ = some (.int .i64 a1_0) := (blk_cell BK281.out 0).trans rfl
              have hcz42_1 : wc.cell? ⟨gb281, 1, none⟩ = some (.int .i64 a1_1) := (blk_cell BK281.out 1).trans rfl
              have hcz42_2 : wc.cell? ⟨gb281, 2, none⟩ = some (.int .i64 a1_2) := (blk_cell BK281.out 2).trans rfl
              have hcz42_3 : wc.cell? ⟨gb281, 3, none⟩ = some (.int .i64 a1_3) := (blk_cell BK281.out 3).trans rfl
              have hcz42_4 : wc.cell? ⟨gb281, 4, none⟩ = some (.int .i64 a1_4) := (blk_cell BK281.out 4).trans rfl
              have hcz42_5 : wc.cell? ⟨gb281, 5, none⟩ = some (.int .i64 a1_5) := (blk_cell BK281.out 5).trans rfl
              have hcz42_6 : wc.cell? ⟨gb281, 6, none⟩ = some (.int .i64 a1_6) := (blk_cell BK281.out 6).trans rfl
              have hcz42_7 : wc.cell? ⟨gb281, 7, none⟩ = some (.int .i64 a1_7) := (blk_cell BK281.out 7).trans rfl
              have hfz42_0 := blk_frozen BK281.out 0
              have hfz42_1 := blk_frozen BK281.out 1
              have hfz42_2 := blk_frozen BK281.out 2
              have hfz42_3 := blk_frozen BK281.out 3
              have hfz42_4 := blk_frozen BK281.out 4
              have hfz42_5 := blk_frozen BK281.out 5
              have hfz42_6 := blk_frozen BK281.out 6
              have hfz42_7 := blk_frozen BK281.out 7
              have hnb43 := NB282_280.out
              have hnc43 := NB280_282.out
              have hcz44_0 : wc.cell? ⟨gb282, 0, none⟩ = some (.int .i64 a2_0) := (blk_cell BK282.out 0).trans rfl
              have hcz44_1 : wc.cell? ⟨gb282, 1, none⟩ = some (.int .i64 a2_1) := (blk_cell BK282.out 1).trans rfl
              have hcz44_2 : wc.cell? ⟨gb282, 2, none⟩ = some (.int .i64 a2_2) := (blk_cell BK282.out 2).trans rfl
              have hcz44_3 : wc.cell? ⟨gb282, 3, none⟩ = some (.int .i64 a2_3) := (blk_cell BK282.out 3).trans rfl
              have hcz44_4 : wc.cell? ⟨gb282, 4, none⟩ = some (.int .i64 a2_4) := (blk_cell BK282.out 4).trans rfl
              have hcz44_5 : wc.cell? ⟨gb282, 5, none⟩ = some (.int .i64 a2_5) := (blk_cell BK282.out 5).trans rfl
              have hcz44_6 : wc.cell? ⟨gb282, 6, none⟩ = some (.int .i64 a2_6) := (blk_cell BK282.out 6).trans rfl
              have hcz44_7 : wc.cell? ⟨gb282, 7, none⟩ = some (.int .i64 a2_7) := (blk_cell BK282.out 7).trans rfl
              have hfz44_0 := blk_frozen BK282.out 0
              have hfz44_1 := blk_frozen BK282.out 1
              have hfz44_2 := blk_frozen BK282.out 2
              have hfz44_3 := blk_frozen BK282.out 3
              have hfz44_4 := blk_frozen BK282.out 4
              have hfz44_5 := blk_frozen BK282.out 5
              have hfz44_6 := blk_frozen BK282.out 6
              have hfz44_7 := blk_frozen BK282.out 7
              go_wp2
              go_meet
              case rel => exact ⟨_, (false), (by first | rfl | (simp; done) | (simp [*]; done)), H', ⟨by have := HJ5.out; first | omega | exact Nat.le_refl _⟩, ⟨by (with_reducible repeat (first | refine blk_drewN ?_ _ | refine blk_drew ?_ | refine blk_alloc ?_ _)); exact BK280.out⟩, ⟨by (with_reducible repeat (first | refine blk_drewN ?_ _ | refine blk_drew ?_ | refine blk_alloc ?_ _)); exact BK281.out⟩, ⟨by (with_reducible repeat (first | refine blk_drewN ?_ _ | refine blk_drew ?_ | refine blk_alloc ?_ _)); exact BK282.out⟩, ⟨by repeat (first | (with_reducible first | exact HB.out | apply below_alloc | apply pw_below_drewN | apply below_drew1 | refine below_set ?_ GE280.out | refine below_set ?_ GE281.out | refine below_set ?_ GE282.out) | exact HB.out)⟩⟩
          case rest =>
            clear HC33
            try clear c1
            try clear c2
            try clear p2
            try clear c3
            try clear c4
            try clear c5
            try clear c9
            try clear c11
            try clear c11b0
            try clear c11b1
            try clear c12
            try clear c13
            try clear c16
            try clear c16b0
            try clear c16b1
            try clear c18
            try clear c19
            try clear c21
            try clear c26
            try clear c27
            try clear c29
            try clear c32
            try clear c34
            try clear c34b0
            try clear c34b1
            try clear c35
            try clear c36
            try clear c38
            try clear c40
            try clear c41
            try clear c43
            try clear hcz14_0
            try clear hcz14_1
            try clear hcz14_2
            try clear hcz20_0
            try clear hcz20_1
            try clear hcz20_2
            try clear hcz22_0
            try clear hcz22_1
            try clear hcz22_2
            try clear hcz22_3
            try clear hcz22_4
            try clear hcz22_5
            try clear hcz22_6
            try clear hcz22_7
            try clear hcz24_0
            try clear hcz24_1
            try clear hcz24_2
            try clear hcz24_3
            try clear hcz24_4
            try clear hcz24_5
            try clear hcz24_6
            try clear hcz24_7
            try clear hcz28_0
            try clear hcz28_1
            try clear hcz28_2
            try clear hcz30_0
            try clear hcz30_1
            try clear hcz30_2
            try clear hcz30_3
            try clear hcz30_4
            try clear hcz30_5
            try clear hcz30_6
            try clear hcz30_7
            try clear hcz37_0
            try clear hcz37_1
            try clear hcz37_2
            try clear hcz37_3
            try clear hcz37_4
            try clear hcz37_5
            try clear hcz37_6
            try clear hcz37_7
            try clear hcz39_0
            try clear hcz39_1
            try clear hcz39_2
            try clear hcz39_3
            try clear hcz39_4
            try clear hcz39_5
            try clear hcz39_6
            try clear hcz39_7
            try clear hcz42_0
            try clear hcz42_1
            try clear hcz42_2
            try clear hcz42_3
            try clear hcz42_4
            try clear hcz42_5
            try clear hcz42_6
            try clear hcz42_7
            try clear hcz44_0
            try clear hcz44_1
            try clear hcz44_2
            try clear hcz44_3
            try clear hcz44_4
            try clear hcz44_5
            try clear hcz44_6
            try clear hcz44_7
            try clear hfz14_0
            try clear hfz14_1
            try clear hfz14_2
            try clear hfz20_0
            try clear hfz20_1
            try clear hfz20_2
            try clear hfz22_0
            try clear hfz22_1
            try clear hfz22_2
            try clear hfz22_3
            try clear hfz22_4
            try clear hfz22_5
            try clear hfz22_6
            try clear hfz22_7
            try clear hfz24_0
            try clear hfz24_1
            try clear hfz24_2
            try clear hfz24_3
            try clear hfz24_4
            try clear hfz24_5
            try clear hfz24_6
            try clear hfz24_7
            try clear hfz28_0
            try clear hfz28_1
            try clear hfz28_2
            try clear hfz30_0
            try clear hfz30_1
            try clear hfz30_2
            try clear hfz30_3
            try clear hfz30_4
            try clear hfz30_5
            try clear hfz30_6
            try clear hfz30_7
            try clear hfz37_0
            try clear hfz37_1
            try clear hfz37_2
            try clear hfz37_3
            try clear hfz37_4
            try clear hfz37_5
            try clear hfz37_6
            try clear hfz37_7
            try clear hfz39_0
            try clear hfz39_1
            try clear hfz39_2
            try clear hfz39_3
            try clear hfz39_4
            try clear hfz39_5
            try clear hfz39_6
            try clear hfz39_7
            try clear hfz42_0
            try clear hfz42_1
            try clear hfz42_2
            try clear hfz42_3
            try clear hfz42_4
            try clear hfz42_5
            try clear hfz42_6
            try clear hfz42_7
            try clear hfz44_0
            try clear hfz44_1
            try clear hfz44_2
            try clear hfz44_3
            try clear hfz44_4
            try clear hfz44_5
            try clear hfz44_6
            try clear hfz44_7
            try clear p2
            obtain ⟨kq, x7_32, rfl, HA, HJ32, BK280, BK281, BK282, HB⟩ := hcut
            cases kq with
            | zero => exact absurd HA.out (by simp [aviarylaw10_GraftFits.j1])
            | succ kj32 =>
              have H := HA.out
              clear HA
              simp only [aviarylaw10_GraftFits.j1] at H
              replace H := Option.bind_eq_some_iff.mp H
              obtain ⟨⟨t286, t287, t288⟩, A450, H⟩ := H
              replace H : ((graft_Encode.f kj32 t286 t287 t288 a1_0 a1_1 a1_2 a1_3 a1_4 a1_5 a1_6 a1_7).bind fun bt291 => ((graft_Decode.f kj32 bt291.1 a2_0 a2_1 a2_2 a2_3 a2_4 a2_5 a2_6 a2_7).bind fun bt293 => (if bt291.2 = 0 then ((aviarylaw10_Own.f a0_0 a0_1 l0_2).bind fun bt300 => ((graft_Check.f kj32 bt300.1 bt300.2.1 bt300.2.2 a2_0 a2_1 a2_2 a2_3 a2_4 a2_5 a2_6 a2_7).bind fun t305 => (if ((t305 == 0) != x7_32) = true then (none) else (if x7_32 = true then (if bt293.2.2.2 = 0 then ((aviaryref10_Same.f bt293.1 bt293.2.1 bt293.2.2.1 a0_0 a0_1 l0_2).bind fun t306 => (some t306)) else (none)) else (some true))))) else (none)))) = some r := H
              have A45 := Aside0.mk A450
              clear A450
              replace H := Option.bind_eq_some_iff.mp H
              obtain ⟨⟨t291, t292⟩, A460, H⟩ := H
              replace H : ((graft_Decode.f kj32 t291 a2_0 a2_1 a2_2 a2_3 a2_4 a2_5 a2_6 a2_7).bind fun bt293 => (if t292 = 0 then ((aviarylaw10_Own.f a0_0 a0_1 l0_2).bind fun bt300 => ((graft_Check.f kj32 bt300.1 bt300.2.1 bt300.2.2 a2_0 a2_1 a2_2 a2_3 a2_4 a2_5 a2_6 a2_7).bind fun t305 => (if ((t305 == 0) != x7_32) = true then (none) else (if x7_32 = true then (if bt293.2.2.2 = 0 then ((aviaryref10_Same.f bt293.1 bt293.2.1 bt293.2.2.1 a0_0 a0_1 l0_2).bind fun t306 => (some t306)) else (none)) else (some true))))) else (none))) = some r := H
              have A46 := Aside0.mk A460
              clear A460
              replace H := Option.bind_eq_some_iff.mp H
              obtain ⟨⟨t293, t294, t295, t298⟩, A470, H⟩ := H
              replace H : (if t292 = 0 then ((aviarylaw10_Own.f a0_0 a0_1 l0_2).bind fun bt300 => ((graft_Check.f kj32 bt300.1 bt300.2.1 bt300.2.2 a2_0 a2_1 a2_2 a2_3 a2_4 a2_5 a2_6 a2_7).bind fun t305 => (if ((t305 == 0) != x7_32) = true then (none) else (if x7_32 = true then (if t298 = 0 then ((aviaryref10_Same.f t293 t294 t295 a0_0 a0_1 l0_2).bind fun t306 => (some t306)) else (none)) else (some true))))) else (none)) = some r := H
              have A47 := Aside0.mk A470
              clear A470
              by_cases c48 : t292 = 0
              · rw [if_pos c48] at H
                have c48b0 : (t292 == 0) = true := beq_iff_eq.mpr c48
                have c48b1 : (t292 != 0) = false := bne_eq_false_iff_eq.mpr c48
                clear c48
                replace H := Option.bind_eq_some_iff.mp H
                obtain ⟨⟨t300, t301, t302⟩, A490, H⟩ := H
                replace H : ((graft_Check.f kj32 t300 t301 t302 a2_0 a2_1 a2_2 a2_3 a2_4 a2_5 a2_6 a2_7).bind fun t305 => (if ((t305 == 0) != x7_32) = true then (none) else (if x7_32 = true then (if t298 = 0 then ((aviaryref10_Same.f t293 t294 t295 a0_0 a0_1 l0_2).bind fun t306 => (some t306)) else (none)) else (some true)))) = some r := H
                have A49 := Aside0.mk A490
                clear A490
                replace H := Option.bind_eq_some_iff.mp H
                obtain ⟨t305, A500, H⟩ := H
                replace H : (if ((t305 == 0) != x7_32) = true then (none) else (if x7_32 = true then (if t298 = 0 then ((aviaryref10_Same.f t293 t294 t295 a0_0 a0_1 l0_2).bind fun t306 => (some t306)) else (none)) else (some true))) = some r := H
                have A50 := Aside0.mk A500
                clear A500
                by_cases c51 : ((t305 == 0) != x7_32) = true
                · rw [if_pos c51] at H
                  exact absurd H (by simp)
                · rw [if_neg c51] at H
                  have c51b0 : ((t305 == 0) != x7_32) = false := by simpa using c51
                  (try (have c51b1 : decide ((t305 == 0) = x7_32) = true := by simpa using c51))
                  (try (have c51b2 : ((t305 == 0) == x7_32) = true := by simpa using c51))
                  clear c51
                  by_cases c52 : x7_32 = true
                  · subst c52
                    have H1 : (if t298 = 0 then ((aviaryref10_Same.f t293 t294 t295 a0_0 a0_1 l0_2).bind fun t306 => (some t306)) else (none)) = some r := by rw [if_pos rfl] at H; exact H
                    clear H
                    have H := H1
                    clear H1
                    by_cases c53 : t298 = 0
                    · rw [if_pos c53] at H
                      have c53b0 : (t298 == 0) = true := beq_iff_eq.mpr c53
                      have c53b1 : (t298 != 0) = false := bne_eq_false_iff_eq.mpr c53
                      clear c53
                      replace H := Option.bind_eq_some_iff.mp H
                      obtain ⟨t306, A540, H⟩ := H
                      replace H : (some t306) = some r := H
                      have A54 := Aside0.mk A540
                      clear A540
                      obtain rfl := Option.some.inj H
                      try go_wp2
                      have n0_ := Aside0.mk (blk_drew BK280.out)
                      have n1_ := Aside0.mk (blk_drew BK281.out)
                      have n2_ := Aside0.mk (blk_drew BK282.out)
                      have n3_ := Aside0.mk (below_drew1 HB.out)
                      clear BK280
                      clear BK281
                      clear BK282
                      clear HB
                      have BK280 := n0_
                      have BK281 := n1_
                      have BK282 := n2_
                      have HB := n3_
                      clear n0_ n1_ n2_ n3_
                      refine start_ (n := 9) (S := fun w' => w'.cell? ⟨gb280, 0, none⟩ = some (.int .i64 a0_0) ∧ w'.cell? ⟨gb280, 1, none⟩ = some (.int .i64 a0_1) ∧ w'.cell? ⟨gb280, 2, none⟩ = some (.slice A0_2 l0_2.length c0_2) ∧ w'.cell? ⟨gb281, 0, none⟩ = some (.int .i64 a1_0) ∧ w'.cell? ⟨gb281, 1, none⟩ = some (.int .i64 a1_1) ∧ w'.cell? ⟨gb281, 2, none⟩ = some (.int .i64 a1_2) ∧ w'.cell? ⟨gb281, 3, none⟩ = some (.int .i64 a1_3) ∧ w'.cell? ⟨gb281, 4, none⟩ = some (.int .i64 a1_4) ∧ w'.cell? ⟨gb281, 5, none⟩ = some (.int .i64 a1_5) ∧ w'.cell? ⟨gb281, 6, none⟩ = some (.int .i64 a1_6) ∧ w'.cell? ⟨gb281, 7, none⟩ = some (.int .i64 a1_7)) (ds := []) #[false, false, false, false, false, false, false, false, false] (by kernel_rfl) rfl rfl ⟨(blk_cell BK280.out 0).trans rfl, (blk_cell BK280.out 1).trans rfl, (blk_cell BK280.out 2).trans rfl, (blk_cell BK281.out 0).trans rfl, (blk_cell BK281.out 1).trans rfl, (blk_cell BK281.out 2).trans rfl, (blk_cell BK281.out 3).trans rfl, (blk_cell BK281.out 4).trans rfl, (blk_cell BK281.out 5).trans rfl, (blk_cell BK281.out 6).trans rfl, (blk_cell BK281.out 7).trans rfl⟩ (fun hHeld => ?_); refine with_tabW aviarylaw10_GraftFits.tab6 aviarylaw10_GraftFits.bits6 (fun HT_ HW_ => ?_)
                      generalize wc.drew = w55 at BK280 BK281 BK282 HB hHeld ⊢
                      refine take_ (i := 0) (N := some 42) (v := ?_) (a' := ?_) #[true, false, false, false, false, false, false, false, false] rfl rfl (take_ofW HT_.out HW_.out (by kernel_rfl)) (fun _ _ _ h => h) (Or.inl ⟨by rfl, ?_⟩) hHeld ?_ ?_
                      rotate_left
                      · rintro w' ⟨s0, s1, s2, s3, s4, s5, s6, s7, s8, s9, s10⟩
                        go_simp
                        with_reducible rfl
                      rotate_left
                      · simp only [Act.put, List.setIfInBounds_toArray, List.set_cons_zero, List.set_cons_succ, i64_w, i32_w]
                        rfl
                      refine take_ (i := 2) (N := some 44) (v := ?_) (a' := ?_) #[true, false, true, false, false, false, false, false, false] rfl rfl (take_ofW HT_.out HW_.out (by kernel_rfl)) (fun _ _ _ h => h) (Or.inl ⟨by rfl, ?_⟩) hHeld ?_ ?_
                      rotate_left
                      · rintro w' ⟨s0, s1, s2, s3, s4, s5, s6, s7, s8, s9, s10⟩
                        go_simp
                        with_reducible rfl
                      rotate_left
                      · simp only [Act.put, List.setIfInBounds_toArray, List.set_cons_zero, List.set_cons_succ, i64_w, i32_w]
                        rfl
                      refine one_ (i := 1) (N := some 43) #[true, true, true, false, false, false, false, false, false] rfl rfl (one_of HT_.out (by kernel_rfl)) (by decide) (fun K hK => ?_)
                      refine goes_ Try.func16 (by kernel_rfl) rfl #[.agg #[.int .i64 a0_0, .int .i64 a0_1, .slice A0_2 l0_2.length c0_2]] (by rfl) rfl rfl ar_ ?_
                      with_reducible refine (aviarylaw10_Own.calls a0_0 a0_1 _ _ l0_2 t286 t287 t288 _ ?side1 ?side2 A45.out).mono ?_
                      (case side1 => repeat (first | exact (Kd.C_below HR0_2.out HB.out) | (with_reducible refine Kd.C_alloc ?_ _) | (with_reducible refine Kd.C_drewN ?_ _) | (with_reducible refine Kd.C_drew ?_)))
                      (case side2 => exact HC0_2.out)
                      rintro e w56 ⟨v289, rfl, ho0, hb⟩
                      refine ⟨_, rfl, ?_⟩
                      have n0_ := Aside0.mk (Kd.S_lower ho0 (below_size by_))
                      have n1_ := Aside0.mk (blk_below (bkl_ BK280.out) hb)
                      have n2_ := Aside0.mk (blk_below (bkl_ BK281.out) hb)
                      have n3_ := Aside0.mk (blk_below (bkl_ BK282.out) hb)
                      have n4_ := Aside0.mk (below_step by_ hb)
                      clear BK280
                      clear BK281
                      clear BK282
                      clear HB
                      have HO290 := n0_
                      have BK280 := n1_
                      have BK281 := n2_
                      have BK282 := n3_
                      have HB := n4_
                      clear n0_ n1_ n2_ n3_ n4_
                      (try clear hb)
                      (try clear hb2)
                      (try clear hk)
                      (try clear hi)
                      (try clear ho0)
                      obtain ⟨Ao57, co57, eo57⟩ := Kd.S_slice HO290.out
                      (first | subst eo57 | (injection eo57 with f1_ f2_ f3_; have f4_ := f1_.symm; have f5_ := f3_.symm; clear f1_ f2_ f3_; subst f4_; subst f5_))
                      refine hK.out _ _ ⟨(blk_cell BK280.out 0).trans rfl, (blk_cell BK280.out 1).trans rfl, (blk_cell BK280.out 2).trans rfl, (blk_cell BK281.out 0).trans rfl, (blk_cell BK281.out 1).trans rfl, (blk_cell BK281.out 2).trans rfl, (blk_cell BK281.out 3).trans rfl, (blk_cell BK281.out 4).trans rfl, (blk_cell BK281.out 5).trans rfl, (blk_cell BK281.out 6).trans rfl, (blk_cell BK281.out 7).trans rfl⟩ (fun hHeld => ?_)
                      clear hK K
                      refine norm_ (a' := ?_) ?_ ?_
                      rotate_left
                      · show Act.put _ (some 43) _ = _
                        simp only [Act.put, List.setIfInBounds_toArray, List.set_cons_zero, List.set_cons_succ, i64_w, i32_w]
                        rfl
                      refine one_ (i := 3) (N := some 45) #[true, true, true, true, false, false, false, false, false] rfl rfl (one_of HT_.out (by kernel_rfl)) (by decide) (fun K hK => ?_)
                      refine goes_ Try.func17 (by kernel_rfl) rfl #[.agg #[.int .i64 t286, .int .i64 t287, .slice Ao57 t288.length co57], .agg #[.int .i64 a1_0, .int .i64 a1_1, .int .i64 a1_2, .int .i64 a1_3, .int .i64 a1_4, .int .i64 a1_5, .int .i64 a1_6, .int .i64 a1_7]] (by rfl) rfl rfl ar_ ?_
                      with_reducible refine (graft_Encode.calls kj32 t286 t287 _ _ t288 a1_0 a1_1 a1_2 a1_3 a1_4 a1_5 a1_6 a1_7 t291 t292 _ ?side1 ?side2 A46.out).mono ?_
                      (case side1 => repeat (first | exact (Kd.S_reads' HO290.out).2.2 | (with_reducible refine Kd.C_alloc ?_ _) | (with_reducible refine Kd.C_drewN ?_ _) | (with_reducible refine Kd.C_drew ?_)))
                      (case side2 => exact (Kd.S_reads' HO290.out).2.1)
                      rintro e w58 ⟨rfl, hb⟩
                      refine ⟨_, rfl, ?_⟩
                      have n0_ := Aside0.mk (Kd.S_below (by (with_reducible repeat (first | apply Kd.S_alloc | apply Kd.S_drewN | apply Kd.S_drew)); exact HO290.out) hb)
                      have n1_ := Aside0.mk (blk_below (bkl_ BK280.out) hb)
                      have n2_ := Aside0.mk (blk_below (bkl_ BK281.out) hb)
                      have n3_ := Aside0.mk (blk_below (bkl_ BK282.out) hb)
                      have n4_ := Aside0.mk (below_step by_ hb)
                      clear HO290
                      clear BK280
                      clear BK281
                      clear BK282
                      clear HB
                      have HO290 := n0_
                      have BK280 := n1_
                      have BK281 := n2_
                      have BK282 := n3_
                      have HB := n4_
                      clear n0_ n1_ n2_ n3_ n4_
                      (try clear hb)
                      (try clear hb2)
                      (try clear hk)
                      (try clear hi)
                      refine hK.out _ _ ⟨(blk_cell BK280.out 0).trans rfl, (blk_cell BK280.out 1).trans rfl, (blk_cell BK280.out 2).trans rfl, (blk_cell BK281.out 0).trans rfl, (blk_cell BK281.out 1).trans rfl, (blk_cell BK281.out 2).trans rfl, (blk_cell BK281.out 3).trans rfl, (blk_cell BK281.out 4).trans rfl, (blk_cell BK281.out 5).trans rfl, (blk_cell BK281.out 6).trans rfl, (blk_cell BK281.out 7).trans rfl⟩ (fun hHeld => ?_)
                      clear hK K
                      refine norm_ (a' := ?_) ?_ ?_
                      rotate_left
                      · show Act.put _ (some 45) _ = _
                        simp only [Act.put, List.setIfInBounds_toArray, List.set_cons_zero, List.set_cons_succ, i64_w, i32_w]
                        rfl
                      refine pure_ (i := 4) (N := some 41) (v := ?_) (a' := ?_) #[true, true, true, true, true, false, false, false, false] rfl rfl (any_of HT_.out (by kernel_rfl)) (fun _ _ _ h => h) (Or.inl ⟨by rfl, ?_⟩) ?_ ?_
                      rotate_left
                      · intro w'
                        go_simp
                        with_reducible rfl
                      rotate_left
                      · simp only [Act.put, List.setIfInBounds_toArray, List.set_cons_zero, List.set_cons_succ, i64_w, i32_w]
                        rfl
                      refine pure_ (i := 5) (N := some 46) (v := ?_) (a' := ?_) #[true, true, true, true, true, true, false, false, false] rfl rfl (any_of HT_.out (by kernel_rfl)) (fun _ _ _ h => h) (Or.inl ⟨by rfl, ?_⟩) ?_ ?_
                      rotate_left
                      · intro w'
                        go_simp
                        with_reducible rfl
                      rotate_left
                      · simp only [Act.put, List.setIfInBounds_toArray, List.set_cons_zero, List.set_cons_succ, i64_w, i32_w]
                        rfl
                      refine pure_ (i := 6) (N := some 47) (v := ?_) (a' := ?_) #[true, true, true, true, true, true, true, false, false] rfl rfl (any_of HT_.out (by kernel_rfl)) (fun _ _ _ h => h) (Or.inl ⟨by rfl, ?_⟩) ?_ ?_
                      rotate_left
                      · intro w'
                        go_simp
                        with_reducible rfl
                      rotate_left
                      · simp only [Act.put, List.setIfInBounds_toArray, List.set_cons_zero, List.set_cons_succ, i64_w, i32_w]
                        rfl
                      refine pure_ (i := 7) (N := some 8) (v := ?_) (a' := ?_) #[true, true, true, true, true, true, true, true, false] rfl rfl (any_of HT_.out (by kernel_rfl)) (fun _ _ _ h => h) (Or.inl ⟨by rfl, ?_⟩) ?_ ?_
                      rotate_left
                      · intro w'
                        go_simp
                        with_reducible rfl
                      rotate_left
                      · simp only [Act.put, List.setIfInBounds_toArray, List.set_cons_zero, List.set_cons_succ, i64_w, i32_w]
                        rfl
                      refine pure_ (i := 8) (N := some 9) (v := ?_) (a' := ?_) #[true, true, true, true, true, true, true, true, true] rfl rfl (any_of HT_.out (by kernel_rfl)) (fun _ _ _ h => h) (Or.inl ⟨by rfl, ?_⟩) ?_ ?_
                      rotate_left
                      · intro w'
                        go_simp
                        with_reducible rfl
                      rotate_left
                      · simp only [Act.put, List.setIfInBounds_toArray, List.set_cons_zero, List.set_cons_succ, i64_w, i32_w]
                        rfl
                      refine done_ (done_of HT_.out (by kernel_rfl)) ?_
                      have hnb59 := NB282_280.out
                      have hnc59 := NB280_282.out
                      have hnb60 := NB282_281.out
                      have hnc60 := NB281_282.out
                      have hcz61_0 : w58.cell? ⟨gb282, 0, none⟩ = some (.int .i64 a2_0) := (blk_cell BK282.out 0).trans rfl
                      have hcz61_1 : w58.cell? ⟨gb282, 1, none⟩ = some (.int .i64 a2_1) := (blk_cell BK282.out 1).trans rfl
                      have hcz61_2 : w58.cell? ⟨gb282, 2, none⟩ = some (.int .i64 a2_2) := (blk_cell BK282.out 2).trans rfl
                      have hcz61_3 : w58.cell? ⟨gb282, 3, none⟩ = some (.int .i64 a2_3) := (blk_cell BK282.out 3).trans rfl
                      have hcz61_4 : w58.cell? ⟨gb282, 4, none⟩ = some (.int .i64 a2_4) := (blk_cell BK282.out 4).trans rfl
                      have hcz61_5 : w58.cell? ⟨gb282, 5, none⟩ = some (.int .i64 a2_5) := (blk_cell BK282.out 5).trans rfl
                      have hcz61_6 : w58.cell? ⟨gb282, 6, none⟩ = some (.int .i64 a2_6) := (blk_cell BK282.out 6).trans rfl
                      have hcz61_7 : w58.cell? ⟨gb282, 7, none⟩ = some (.int .i64 a2_7) := (blk_cell BK282.out 7).trans rfl
                      have hfz61_0 := blk_frozen BK282.out 0
                      have hfz61_1 := blk_frozen BK282.out 1
                      have hfz61_2 := blk_frozen BK282.out 2
                      have hfz61_3 := blk_frozen BK282.out 3
                      have hfz61_4 := blk_frozen BK282.out 4
                      have hfz61_5 := blk_frozen BK282.out 5
                      have hfz61_6 := blk_frozen BK282.out 6
                      have hfz61_7 := blk_frozen BK282.out 7
                      try go_wp2_with (first | ((with_reducible refine gate_callee (f := 24) rfl ?_); refine goesL_ (some 51) rfl rfl Try.func24 (by kernel_rfl) rfl #[.string t291, .agg #[.int .i64 a2_0, .int .i64 a2_1, .int .i64 a2_2, .int .i64 a2_3, .int .i64 a2_4, .int .i64 a2_5, .int .i64 a2_6, .int .i64 a2_7]] rfl ar_ ?_; (with_reducible refine (graft_Decode.calls kj32 t291 a2_0 a2_1 a2_2 a2_3 a2_4 a2_5 a2_6 a2_7 t293 t294 t295 t298 _ A47.out).mono ?_); rintro e w62 ⟨v296, rfl, ho0, hb⟩; refine ⟨_, rfl, ?_⟩; have n0_ := Aside0.mk (Kd.S_elder' (by (with_reducible repeat (first | apply Kd.S_alloc | apply Kd.S_drewN | apply Kd.S_drew)); exact HO290.out) (Kd.S_base ho0) hb); have n1_ := Aside0.mk (Kd.S_lower (Kd.S_new' ho0 (Kd.S_lt (by (with_reducible repeat (first | apply Kd.S_alloc | apply Kd.S_drewN | apply Kd.S_drew)); exact HO290.out))) (below_size by_)); have n2_ := Aside0.mk (blk_below (bkl_ BK280.out) hb); have n3_ := Aside0.mk (blk_below (bkl_ BK281.out) hb); have n4_ := Aside0.mk (blk_below (bkl_ BK282.out) hb); have n5_ := Aside0.mk (below_step by_ hb); clear HO290; clear BK280; clear BK281; clear BK282; clear HB; have HO290 := n0_; have HO297 := n1_; have BK280 := n2_; have BK281 := n3_; have BK282 := n4_; have HB := n5_; clear n0_ n1_ n2_ n3_ n4_ n5_; (try clear hb); (try clear hb2); (try clear hk); (try clear hi); (try clear ho0)) | ((with_reducible refine gate_dst (N := 10) rfl ?_); refine box_event ?hg (N := 10) ?hd (cs := #[.int .i64 0, .int .i64 0, .slice none 0 0]) (t := 27) ?hr ?_; (case hd => rfl); (case hg => rfl); (case hr => first | (go_simp; done) | (go_simp; rfl)); intro gb299 hg w63 hbox hb; have n0_ := Aside0.mk (Kd.S_below (by (with_reducible repeat (first | apply Kd.S_alloc | apply Kd.S_drewN | apply Kd.S_drew)); exact HO290.out) hb); have n1_ := Aside0.mk (Kd.S_below (by (with_reducible repeat (first | apply Kd.S_alloc | apply Kd.S_drewN | apply Kd.S_drew)); exact HO297.out) hb); have n2_ := Aside0.mk (blk_below (bkl_ BK280.out) hb); have n3_ := Aside0.mk (blk_below (bkl_ BK281.out) hb); have n4_ := Aside0.mk (blk_below (bkl_ BK282.out) hb); have n5_ := Aside0.mk (below_step by_ hb); have n6_ := Aside0.mk (hbox); have n7_ := Aside0.mk ((by rw [hg]; exact (below_size by_) : w.heap.size ≤ gb299)); have n8_ := Aside0.mk ((by rw [hg]; exact (below_size by_) : w.heap.size ≤ gb299)); have n9_ := Aside0.mk ((by rw [hg]; exact Nat.ne_of_lt (blk_lt (bkl_ BK280.out)) : gb280 ≠ gb299)); have n10_ := Aside0.mk ((by rw [hg]; exact Nat.ne_of_gt (blk_lt (bkl_ BK280.out)) : gb299 ≠ gb280)); have n11_ := Aside0.mk ((by rw [hg]; exact Nat.ne_of_lt (blk_lt (bkl_ BK281.out)) : gb281 ≠ gb299)); have n12_ := Aside0.mk ((by rw [hg]; exact Nat.ne_of_gt (blk_lt (bkl_ BK281.out)) : gb299 ≠ gb281)); have n13_ := Aside0.mk ((by rw [hg]; exact Nat.ne_of_lt (blk_lt (bkl_ BK282.out)) : gb282 ≠ gb299)); have n14_ := Aside0.mk ((by rw [hg]; exact Nat.ne_of_gt (blk_lt (bkl_ BK282.out)) : gb299 ≠ gb282)); clear HO290; clear HO297; clear BK280; clear BK281; clear BK282; clear HB; have HO290 := n0_; have HO297 := n1_; have BK280 := n2_; have BK281 := n3_; have BK282 := n4_; have HB := n5_; have BK299 := n6_; have GW299 := n7_; have GE299 := n8_; have NB280_299 := n9_; have NB299_280 := n10_; have NB281_299 := n11_; have NB299_281 := n12_; have NB282_299 := n13_; have NB299_282 := n14_; clear n0_ n1_ n2_ n3_ n4_ n5_ n6_ n7_ n8_ n9_ n10_ n11_ n12_ n13_ n14_; clear hb hbox hg; have hnb64 := NB299_280.out; have hnc64 := NB280_299.out; have hnb65 := NB299_281.out; have hnc65 := NB281_299.out; have hnb66 := NB299_282.out; have hnc66 := NB282_299.out; have hcz67_0 : w63.cell? ⟨gb299, 0, none⟩ = some (.int .i64 0) := (blk_cell BK299.out 0).trans rfl; have hcz67_1 : w63.cell? ⟨gb299, 1, none⟩ = some (.int .i64 0) := (blk_cell BK299.out 1).trans rfl; have hcz67_2 : w63.cell? ⟨gb299, 2, none⟩ = some (.slice none 0 0) := (blk_cell BK299.out 2).trans rfl; have hfz67_0 := blk_frozen BK299.out 0; have hfz67_1 := blk_frozen BK299.out 1; have hfz67_2 := blk_frozen BK299.out 2; obtain ⟨Ao68, co68, eo68⟩ := Kd.S_slice HO297.out; subst eo68))
                      have n0_ : Aside0 (Kd.S k59 59 (((w63.setCell ⟨gb299, 0, none⟩ (.int .i64 t293)).setCell ⟨gb299, 1, none⟩ (.int .i64 t294)).setCell ⟨gb299, 2, none⟩ (.slice Ao68 t295.length co68)) w.heap.size (fun k_ => some k_ ≠ (.slice Ao68 t295.length co68 : Value).ownBlock) (.slice Ao57 t288.length co57) t288) := ⟨by (with_reducible repeat (first | apply Kd.S_alloc | apply Kd.S_drewN | apply Kd.S_drew)); exact Kd.S_mono (Kd.S_far (p := ⟨gb299, 2, none⟩) (Kd.S_far (p := ⟨gb299, 1, none⟩) (Kd.S_far (p := ⟨gb299, 0, none⟩) (Kd.S_types HO290.out BK299.out (by decide)) (fun _ hk => hk.2) (.int .i64 t293)) (fun _ hk => hk.2) (.int .i64 t294)) (fun _ hk => hk.2) (.slice Ao68 t295.length co68)) (fun _ hk => hk.1.2)⟩
                      have n1_ : Aside0 (Kd.S k59 59 (((w63.setCell ⟨gb299, 0, none⟩ (.int .i64 t293)).setCell ⟨gb299, 1, none⟩ (.int .i64 t294)).setCell ⟨gb299, 2, none⟩ (.slice Ao68 t295.length co68)) w.heap.size (fun k_ => some k_ ≠ (.slice Ao57 t288.length co57 : Value).ownBlock) (.slice Ao68 t295.length co68) t295) := ⟨by (with_reducible repeat (first | apply Kd.S_alloc | apply Kd.S_drewN | apply Kd.S_drew)); exact Kd.S_mono (Kd.S_far (p := ⟨gb299, 2, none⟩) (Kd.S_far (p := ⟨gb299, 1, none⟩) (Kd.S_far (p := ⟨gb299, 0, none⟩) (Kd.S_types HO297.out BK299.out (by decide)) (fun _ hk => hk.2) (.int .i64 t293)) (fun _ hk => hk.2) (.int .i64 t294)) (fun _ hk => hk.2) (.slice Ao68 t295.length co68)) (fun _ hk => hk.1.2)⟩
                      have n2_ : Aside0 ((((w63.setCell ⟨gb299, 0, none⟩ (.int .i64 t293)).setCell ⟨gb299, 1, none⟩ (.int .i64 t294)).setCell ⟨gb299, 2, none⟩ (.slice Ao68 t295.length co68)).heap[gb280]? = some (.cells #[.int .i64 a0_0, .int .i64 a0_1, .slice A0_2 l0_2.length c0_2] 27 (0, 0))) := ⟨by (with_reducible repeat (first | refine blk_drewN ?_ _ | refine blk_drew ?_ | refine blk_alloc ?_ _)); refine blk_far ?_ NB280_299.out _; (with_reducible repeat (first | refine blk_drewN ?_ _ | refine blk_drew ?_ | refine blk_alloc ?_ _)); refine blk_far ?_ NB280_299.out _; (with_reducible repeat (first | refine blk_drewN ?_ _ | refine blk_drew ?_ | refine blk_alloc ?_ _)); refine blk_far ?_ NB280_299.out _; (with_reducible repeat (first | refine blk_drewN ?_ _ | refine blk_drew ?_ | refine blk_alloc ?_ _)); exact BK280.out⟩
                      have n3_ : Aside0 ((((w63.setCell ⟨gb299, 0, none⟩ (.int .i64 t293)).setCell ⟨gb299, 1, none⟩ (.int .i64 t294)).setCell ⟨gb299, 2, none⟩ (.slice Ao68 t295.length co68)).heap[gb281]? = some (.cells #[.int .i64 a1_0, .int .i64 a1_1, .int .i64 a1_2, .int .i64 a1_3, .int .i64 a1_4, .int .i64 a1_5, .int .i64 a1_6, .int .i64 a1_7] 23 (0, 0))) := ⟨by (with_reducible repeat (first | refine blk_drewN ?_ _ | refine blk_drew ?_ | refine blk_alloc ?_ _)); refine blk_far ?_ NB281_299.out _; (with_reducible repeat (first | refine blk_drewN ?_ _ | refine blk_drew ?_ | refine blk_alloc ?_ _)); refine blk_far ?_ NB281_299.out _; (with_reducible repeat (first | refine blk_drewN ?_ _ | refine blk_drew ?_ | refine blk_alloc ?_ _)); refine blk_far ?_ NB281_299.out _; (with_reducible repeat (first | refine blk_drewN ?_ _ | refine blk_drew ?_ | refine blk_alloc ?_ _)); exact BK281.out⟩
                      have n4_ : Aside0 ((((w63.setCell ⟨gb299, 0, none⟩ (.int .i64 t293)).setCell ⟨gb299, 1, none⟩ (.int .i64 t294)).setCell ⟨gb299, 2, none⟩ (.slice Ao68 t295.length co68)).heap[gb282]? = some (.cells #[.int .i64 a2_0, .int .i64 a2_1, .int .i64 a2_2, .int .i64 a2_3, .int .i64 a2_4, .int .i64 a2_5, .int .i64 a2_6, .int .i64 a2_7] 23 (0, 0))) := ⟨by (with_reducible repeat (first | refine blk_drewN ?_ _ | refine blk_drew ?_ | refine blk_alloc ?_ _)); refine blk_far ?_ NB282_299.out _; (with_reducible repeat (first | refine blk_drewN ?_ _ | refine blk_drew ?_ | refine blk_alloc ?_ _)); refine blk_far ?_ NB282_299.out _; (with_reducible repeat (first | refine blk_drewN ?_ _ | refine blk_drew ?_ | refine blk_alloc ?_ _)); refine blk_far ?_ NB282_299.out _; (with_reducible repeat (first | refine blk_drewN ?_ _ | refine blk_drew ?_ | refine blk_alloc ?_ _)); exact BK282.out⟩
                      have n5_ : Aside0 ((((w63.setCell ⟨gb299, 0, none⟩ (.int .i64 t293)).setCell ⟨gb299, 1, none⟩ (.int .i64 t294)).setCell ⟨gb299, 2, none⟩ (.slice Ao68 t295.length co68)).heap[gb299]? = some (.cells #[.int .i64 t293, .int .i64 t294, .slice Ao68 t295.length co68] 27 (0, 0))) := ⟨by (with_reducible repeat (first | refine blk_drewN ?_ _ | refine blk_drew ?_ | refine blk_alloc ?_ _)); refine blk_put (cs := #[.int .i64 t293, .int .i64 t294, .slice none 0 0]) ?_ 2 _ rfl; (with_reducible repeat (first | refine blk_drewN ?_ _ | refine blk_drew ?_ | refine blk_alloc ?_ _)); refine blk_put (cs := #[.int .i64 t293, .int .i64 0, .slice none 0 0]) ?_ 1 _ rfl; (with_reducible repeat (first | refine blk_drewN ?_ _ | refine blk_drew ?_ | refine blk_alloc ?_ _)); refine blk_put (cs := #[.int .i64 0, .int .i64 0, .slice none 0 0]) ?_ 0 _ rfl; (with_reducible repeat (first | refine blk_drewN ?_ _ | refine blk_drew ?_ | refine blk_alloc ?_ _)); exact BK299.out⟩
                      have n6_ : Aside0 (Below w.heap.size w (((w63.setCell ⟨gb299, 0, none⟩ (.int .i64 t293)).setCell ⟨gb299, 1, none⟩ (.int .i64 t294)).setCell ⟨gb299, 2, none⟩ (.slice Ao68 t295.length co68))) := ⟨by repeat (first | (with_reducible first | exact HB.out | apply below_alloc | apply pw_below_drewN | apply below_drew1 | refine below_set ?_ GE280.out | refine below_set ?_ GE281.out | refine below_set ?_ GE282.out | refine below_set ?_ GE299.out) | exact HB.out)⟩
                      (try clear HO290)
                      (try clear HO297)
                      (try clear BK280)
                      (try clear BK281)
                      (try clear BK282)
                      (try clear BK299)
                      (try clear HB)
                      generalize (((w63.setCell ⟨gb299, 0, none⟩ (.int .i64 t293)).setCell ⟨gb299, 1, none⟩ (.int .i64 t294)).setCell ⟨gb299, 2, none⟩ (.slice Ao68 t295.length co68)) = w69 at n0_ n1_ n2_ n3_ n4_ n5_ n6_ ⊢
                      have HO290 := n0_
                      have HO297 := n1_
                      have BK280 := n2_
                      have BK281 := n3_
                      have BK282 := n4_
                      have BK299 := n5_
                      have HB := n6_
                      clear n0_ n1_ n2_ n3_ n4_ n5_ n6_
                      have n0_ := Aside0.mk (Kd.S_drew HO290.out)
                      have n1_ := Aside0.mk (Kd.S_drew HO297.out)
                      have n2_ := Aside0.mk (blk_drew BK280.out)
                      have n3_ := Aside0.mk (blk_drew BK281.out)
                      have n4_ := Aside0.mk (blk_drew BK282.out)
                      have n5_ := Aside0.mk (blk_drew BK299.out)
                      have n6_ := Aside0.mk (below_drew1 HB.out)
                      clear HO290
                      clear HO297
                      clear BK280
                      clear BK281
                      clear BK282
                      clear BK299
                      clear HB
                      have HO290 := n0_
                      have HO297 := n1_
                      have BK280 := n2_
                      have BK281 := n3_
                      have BK282 := n4_
                      have BK299 := n5_
                      have HB := n6_
                      clear n0_ n1_ n2_ n3_ n4_ n5_ n6_
                      refine start_ (n := 11) (S := fun w' => w'.cell? ⟨gb280, 0, none⟩ = some (.int .i64 a0_0) ∧ w'.cell? ⟨gb280, 1, none⟩ = some (.int .i64 a0_1) ∧ w'.cell? ⟨gb280, 2, none⟩ = some (.slice A0_2 l0_2.length c0_2) ∧ w'.cell? ⟨gb282, 0, none⟩ = some (.int .i64 a2_0) ∧ w'.cell? ⟨gb282, 1, none⟩ = some (.int .i64 a2_1) ∧ w'.cell? ⟨gb282, 2, none⟩ = some (.int .i64 a2_2) ∧ w'.cell? ⟨gb282, 3, none⟩ = some (.int .i64 a2_3) ∧ w'.cell? ⟨gb282, 4, none⟩ = some (.int .i64 a2_4) ∧ w'.cell? ⟨gb282, 5, none⟩ = some (.int .i64 a2_5) ∧ w'.cell? ⟨gb282, 6, none⟩ = some (.int .i64 a2_6) ∧ w'.cell? ⟨gb282, 7, none⟩ = some (.int .i64 a2_7)) (ds := []) #[false, false, false, false, false, false, false, false, false, false, false] (by kernel_rfl) rfl rfl ⟨(blk_cell BK280.out 0).trans rfl, (blk_cell BK280.out 1).trans rfl, (blk_cell BK280.out 2).trans rfl, (blk_cell BK282.out 0).trans rfl, (blk_cell BK282.out 1).trans rfl, (blk_cell BK282.out 2).trans rfl, (blk_cell BK282.out 3).trans rfl, (blk_cell BK282.out 4).trans rfl, (blk_cell BK282.out 5).trans rfl, (blk_cell BK282.out 6).trans rfl, (blk_cell BK282.out 7).trans rfl⟩ (fun hHeld => ?_); refine with_tabW aviarylaw10_GraftFits.tab8 aviarylaw10_GraftFits.bits8 (fun HT_ HW_ => ?_)
                      generalize w69.drew = w70 at HO290 HO297 BK280 BK281 BK282 BK299 HB hHeld ⊢
                      refine pure_ (i := 0) (N := some 54) (v := ?_) (a' := ?_) #[true, false, false, false, false, false, false, false, false, false, false] rfl rfl (any_of HT_.out (by kernel_rfl)) (fun _ _ _ h => h) (Or.inl ⟨by rfl, ?_⟩) ?_ ?_
                      rotate_left
                      · intro w'
                        go_simp
                        with_reducible rfl
                      rotate_left
                      · simp only [Act.put, List.setIfInBounds_toArray, List.set_cons_zero, List.set_cons_succ, i64_w, i32_w]
                        rfl
                      refine pure_ (i := 1) (N := some 55) (v := ?_) (a' := ?_) #[true, true, false, false, false, false, false, false, false, false, false] rfl rfl (any_of HT_.out (by kernel_rfl)) (fun _ _ _ h => h) (Or.inl ⟨by rfl, ?_⟩) ?_ ?_
                      rotate_left
                      · intro w'
                        go_simp
                        with_reducible rfl
                      rotate_left
                      · simp only [Act.put, List.setIfInBounds_toArray, List.set_cons_zero, List.set_cons_succ, i64_w, i32_w]
                        rfl
                      refine pure_ (i := 2) (N := some 56) (v := ?_) (a' := ?_) #[true, true, true, false, false, false, false, false, false, false, false] rfl rfl (any_of HT_.out (by kernel_rfl)) (fun _ _ _ h => h) (Or.inl ⟨by rfl, ?_⟩) ?_ ?_
                      rotate_left
                      · intro w'
                        go_simp
                        with_reducible rfl
                      rotate_left
                      · simp only [Act.put, List.setIfInBounds_toArray, List.set_cons_zero, List.set_cons_succ, i64_w, i32_w]
                        rfl
                      refine pure_ (i := 8) (N := some 62) (v := ?_) (a' := ?_) #[true, true, true, false, false, false, false, false, true, false, false] rfl rfl (any_of HT_.out (by kernel_rfl)) (fun _ _ _ h => h) (Or.inl ⟨by rfl, ?_⟩) ?_ ?_
                      rotate_left
                      · intro w'
                        go_simp
                        with_reducible rfl
                      rotate_left
                      · simp only [Act.put, List.setIfInBounds_toArray, List.set_cons_zero, List.set_cons_succ, i64_w, i32_w]
                        rfl
                      refine take_ (i := 3) (N := some 57) (v := ?_) (a' := ?_) #[true, true, true, true, false, false, false, false, true, false, false] rfl rfl (take_ofW HT_.out HW_.out (by kernel_rfl)) (fun _ _ _ h => h) (Or.inl ⟨by rfl, ?_⟩) hHeld ?_ ?_
                      rotate_left
                      · rintro w' ⟨s0, s1, s2, s3, s4, s5, s6, s7, s8, s9, s10⟩
                        go_simp
                        with_reducible rfl
                      rotate_left
                      · simp only [Act.put, List.setIfInBounds_toArray, List.set_cons_zero, List.set_cons_succ, i64_w, i32_w]
                        rfl
                      refine take_ (i := 5) (N := some 59) (v := ?_) (a' := ?_) #[true, true, true, true, false, true, false, false, true, false, false] rfl rfl (take_ofW HT_.out HW_.out (by kernel_rfl)) (fun _ _ _ h => h) (Or.inl ⟨by rfl, ?_⟩) hHeld ?_ ?_
                      rotate_left
                      · rintro w' ⟨s0, s1, s2, s3, s4, s5, s6, s7, s8, s9, s10⟩
                        go_simp
                        with_reducible rfl
                      rotate_left
                      · simp only [Act.put, List.setIfInBounds_toArray, List.set_cons_zero, List.set_cons_succ, i64_w, i32_w]
                        rfl
                      refine one_ (i := 4) (N := some 58) #[true, true, true, true, true, true, false, false, true, false, false] rfl rfl (one_of HT_.out (by kernel_rfl)) (by decide) (fun K hK => ?_)
                      refine goes_ Try.func16 (by kernel_rfl) rfl #[.agg #[.int .i64 a0_0, .int .i64 a0_1, .slice A0_2 l0_2.length c0_2]] (by rfl) rfl rfl ar_ ?_
                      with_reducible refine (aviarylaw10_Own.calls a0_0 a0_1 _ _ l0_2 t300 t301 t302 _ ?side1 ?side2 A49.out).mono ?_
                      (case side1 => repeat (first | exact (Kd.C_below HR0_2.out HB.out) | (with_reducible refine Kd.C_alloc ?_ _) | (with_reducible refine Kd.C_drewN ?_ _) | (with_reducible refine Kd.C_drew ?_)))
                      (case side2 => exact HC0_2.out)
                      rintro e w71 ⟨v303, rfl, ho0, hb⟩
                      refine ⟨_, rfl, ?_⟩
                      have n0_ := Aside0.mk (Kd.S_elder' (by (with_reducible repeat (first | apply Kd.S_alloc | apply Kd.S_drewN | apply Kd.S_drew)); exact HO290.out) (Kd.S_base ho0) hb)
                      have n1_ := Aside0.mk (Kd.S_elder' (by (with_reducible repeat (first | apply Kd.S_alloc | apply Kd.S_drewN | apply Kd.S_drew)); exact HO297.out) (Kd.S_base ho0) hb)
                      have n2_ := Aside0.mk (Kd.S_lower (Kd.S_new' (Kd.S_new' ho0 (Kd.S_lt (by (with_reducible repeat (first | apply Kd.S_alloc | apply Kd.S_drewN | apply Kd.S_drew)); exact HO290.out))) (Kd.S_lt (by (with_reducible repeat (first | apply Kd.S_alloc | apply Kd.S_drewN | apply Kd.S_drew)); exact HO297.out))) (below_size by_))
                      have n3_ := Aside0.mk (blk_below (bkl_ BK280.out) hb)
                      have n4_ := Aside0.mk (blk_below (bkl_ BK281.out) hb)
                      have n5_ := Aside0.mk (blk_below (bkl_ BK282.out) hb)
                      have n6_ := Aside0.mk (blk_below (bkl_ BK299.out) hb)
                      have n7_ := Aside0.mk (below_step by_ hb)
                      clear HO290
                      clear HO297
                      clear BK280
                      clear BK281
                      clear BK282
                      clear BK299
                      clear HB
                      have HO290 := n0_
                      have HO297 := n1_
                      have HO304 := n2_
                      have BK280 := n3_
                      have BK281 := n4_
                      have BK282 := n5_
                      have BK299 := n6_
                      have HB := n7_
                      clear n0_ n1_ n2_ n3_ n4_ n5_ n6_ n7_
                      (try clear hb)
                      (try clear hb2)
                      (try clear hk)
                      (try clear hi)
                      (try clear ho0)
                      obtain ⟨Ao72, co72, eo72⟩ := Kd.S_slice HO304.out
                      (first | subst eo72 | (injection eo72 with f1_ f2_ f3_; have f4_ := f1_.symm; have f5_ := f3_.symm; clear f1_ f2_ f3_; subst f4_; subst f5_))
                      refine hK.out _ _ ⟨(blk_cell BK280.out 0).trans rfl, (blk_cell BK280.out 1).trans rfl, (blk_cell BK280.out 2).trans rfl, (blk_cell BK282.out 0).trans rfl, (blk_cell BK282.out 1).trans rfl, (blk_cell BK282.out 2).trans rfl, (blk_cell BK282.out 3).trans rfl, (blk_cell BK282.out 4).trans rfl, (blk_cell BK282.out 5).trans rfl, (blk_cell BK282.out 6).trans rfl, (blk_cell BK282.out 7).trans rfl⟩ (fun hHeld => ?_)
                      clear hK K
                      refine norm_ (a' := ?_) ?_ ?_
                      rotate_left
                      · show Act.put _ (some 58) _ = _
                        simp only [Act.put, List.setIfInBounds_toArray, List.set_cons_zero, List.set_cons_succ, i64_w, i32_w]
                        rfl
                      refine one_ (i := 6) (N := some 60) #[true, true, true, true, true, true, true, false, true, false, false] rfl rfl (one_of HT_.out (by kernel_rfl)) (by decide) (fun K hK => ?_)
                      refine goes_ Try.func19 (by kernel_rfl) rfl #[.agg #[.int .i64 t300, .int .i64 t301, .slice Ao72 t302.length co72], .agg #[.int .i64 a2_0, .int .i64 a2_1, .int .i64 a2_2, .int .i64 a2_3, .int .i64 a2_4, .int .i64 a2_5, .int .i64 a2_6, .int .i64 a2_7]] (by rfl) rfl rfl ar_ ?_
                      with_reducible refine (graft_Check.calls kj32 t300 t301 _ _ t302 a2_0 a2_1 a2_2 a2_3 a2_4 a2_5 a2_6 a2_7 t305 _ ?side1 ?side2 A50.out).mono ?_
                      (case side1 => repeat (first | exact (Kd.S_reads' HO304.out).2.2 | (with_reducible refine Kd.C_alloc ?_ _) | (with_reducible refine Kd.C_drewN ?_ _) | (with_reducible refine Kd.C_drew ?_)))
                      (case side2 => exact (Kd.S_reads' HO304.out).2.1)
                      rintro e w73 ⟨rfl, hb⟩
                      refine ⟨_, rfl, ?_⟩
                      have n0_ := Aside0.mk (Kd.S_below (by (with_reducible repeat (first | apply Kd.S_alloc | apply Kd.S_drewN | apply Kd.S_drew)); exact HO290.out) hb)
                      have n1_ := Aside0.mk (Kd.S_below (by (with_reducible repeat (first | apply Kd.S_alloc | apply Kd.S_drewN | apply Kd.S_drew)); exact HO297.out) hb)
                      have n2_ := Aside0.mk (Kd.S_below (by (with_reducible repeat (first | apply Kd.S_alloc | apply Kd.S_drewN | apply Kd.S_drew)); exact HO304.out) hb)
                      have n3_ := Aside0.mk (blk_below (bkl_ BK280.out) hb)
                      have n4_ := Aside0.mk (blk_below (bkl_ BK281.out) hb)
                      have n5_ := Aside0.mk (blk_below (bkl_ BK282.out) hb)
                      have n6_ := Aside0.mk (blk_below (bkl_ BK299.out) hb)
                      have n7_ := Aside0.mk (below_step by_ hb)
                      clear HO290
                      clear HO297
                      clear HO304
                      clear BK280
                      clear BK281
                      clear BK282
                      clear BK299
                      clear HB
                      have HO290 := n0_
                      have HO297 := n1_
                      have HO304 := n2_
                      have BK280 := n3_
                      have BK281 := n4_
                      have BK282 := n5_
                      have BK299 := n6_
                      have HB := n7_
                      clear n0_ n1_ n2_ n3_ n4_ n5_ n6_ n7_
                      (try clear hb)
                      (try clear hb2)
                      (try clear hk)
                      (try clear hi)
                      refine hK.out _ _ ⟨(blk_cell BK280.out 0).trans rfl, (blk_cell BK280.out 1).trans rfl, (blk_cell BK280.out 2).trans rfl, (blk_cell BK282.out 0).trans rfl, (blk_cell BK282.out 1).trans rfl, (blk_cell BK282.out 2).trans rfl, (blk_cell BK282.out 3).trans rfl, (blk_cell BK282.out 4).trans rfl, (blk_cell BK282.out 5).trans rfl, (blk_cell BK282.out 6).trans rfl, (blk_cell BK282.out 7).trans rfl⟩ (fun hHeld => ?_)
                      clear hK K
                      refine norm_ (a' := ?_) ?_ ?_
                      rotate_left
                      · show Act.put _ (some 60) _ = _
                        simp only [Act.put, List.setIfInBounds_toArray, List.set_cons_zero, List.set_cons_succ, i64_w, i32_w]
                        rfl
                      refine pure_ (i := 7) (N := some 61) (v := ?_) (a' := ?_) #[true, true, true, true, true, true, true, true, true, false, false] rfl rfl (any_of HT_.out (by kernel_rfl)) (fun _ _ _ h => h) (Or.inl ⟨by rfl, ?_⟩) ?_ ?_
                      rotate_left
                      · intro w'
                        go_simp
                        with_reducible rfl
                      rotate_left
                      · simp only [Act.put, List.setIfInBounds_toArray, List.set_cons_zero, List.set_cons_succ, i64_w, i32_w]
                        rfl
                      refine pure_ (i := 9) (N := some 63) (v := ?_) (a' := ?_) #[true, true, true, true, true, true, true, true, true, true, false] rfl rfl (any_of HT_.out (by kernel_rfl)) (fun _ _ _ h => h) (Or.inl ⟨by rfl, ?_⟩) ?_ ?_
                      rotate_left
                      · intro w'
                        go_simp
                        with_reducible rfl
                      rotate_left
                      · simp only [Act.put, List.setIfInBounds_toArray, List.set_cons_zero, List.set_cons_succ, i64_w, i32_w]
                        rfl
                      refine pure_ (i := 10) (N := some 64) (v := ?_) (a' := ?_) #[true, true, true, true, true, true, true, true, true, true, true] rfl rfl (any_of HT_.out (by kernel_rfl)) (fun _ _ _ h => h) (Or.inl ⟨by rfl, ?_⟩) ?_ ?_
                      rotate_left
                      · intro w'
                        go_simp
                        with_reducible rfl
                      rotate_left
                      · simp only [Act.put, List.setIfInBounds_toArray, List.set_cons_zero, List.set_cons_succ, i64_w, i32_w]
                        rfl
                      refine done_ (done_of HT_.out (by kernel_rfl)) ?_
                      have hcz74_0 : w73.cell? ⟨gb299, 0, none⟩ = some (.int .i64 t293) := (blk_cell BK299.out 0).trans rfl
                      have hcz74_1 : w73.cell? ⟨gb299, 1, none⟩ = some (.int .i64 t294) := (blk_cell BK299.out 1).trans rfl
                      have hcz74_2 : w73.cell? ⟨gb299, 2, none⟩ = some (.slice Ao68 t295.length co68) := (blk_cell BK299.out 2).trans rfl
                      have hfz74_0 := blk_frozen BK299.out 0
                      have hfz74_1 := blk_frozen BK299.out 1
                      have hfz74_2 := blk_frozen BK299.out 2
                      have hnb75 := NB280_281.out
                      have hnc75 := NB281_280.out
                      have hcz76_0 : w73.cell? ⟨gb280, 0, none⟩ = some (.int .i64 a0_0) := (blk_cell BK280.out 0).trans rfl
                      have hcz76_1 : w73.cell? ⟨gb280, 1, none⟩ = some (.int .i64 a0_1) := (blk_cell BK280.out 1).trans rfl
                      have hcz76_2 : w73.cell? ⟨gb280, 2, none⟩ = some (.slice A0_2 l0_2.length c0_2) := (blk_cell BK280.out 2).trans rfl
                      have hfz76_0 := blk_frozen BK280.out 0
                      have hfz76_1 := blk_frozen BK280.out 1
                      have hfz76_2 := blk_frozen BK280.out 2
                      try go_wp2_with (first | (go_at_call 12; (with_reducible refine (aviaryref10_Same.calls t293 t294 _ _ t295 a0_0 a0_1 _ _ l0_2 t306 _ ?side1 ?side2 ?side3 ?side4 A54.out).mono ?_); (case side1 => repeat (first | exact (Kd.S_reads' HO297.out).2.2 | (with_reducible refine Kd.C_alloc ?_ _) | (with_reducible refine Kd.C_drewN ?_ _) | (with_reducible refine Kd.C_drew ?_))); (case side2 => exact (Kd.S_reads' HO297.out).2.1); (case side3 => repeat (first | exact (Kd.C_below HR0_2.out HB.out) | (with_reducible refine Kd.C_alloc ?_ _) | (with_reducible refine Kd.C_drewN ?_ _) | (with_reducible refine Kd.C_drew ?_))); (case side4 => exact HC0_2.out); rintro e w77 ⟨rfl, hb⟩; have n0_ := Aside0.mk (Kd.S_below (by (with_reducible repeat (first | apply Kd.S_alloc | apply Kd.S_drewN | apply Kd.S_drew)); exact HO290.out) hb); have n1_ := Aside0.mk (Kd.S_below (by (with_reducible repeat (first | apply Kd.S_alloc | apply Kd.S_drewN | apply Kd.S_drew)); exact HO297.out) hb); have n2_ := Aside0.mk (Kd.S_below (by (with_reducible repeat (first | apply Kd.S_alloc | apply Kd.S_drewN | apply Kd.S_drew)); exact HO304.out) hb); have n3_ := Aside0.mk (blk_below (bkl_ BK280.out) hb); have n4_ := Aside0.mk (blk_below (bkl_ BK281.out) hb); have n5_ := Aside0.mk (blk_below (bkl_ BK282.out) hb); have n6_ := Aside0.mk (blk_below (bkl_ BK299.out) hb); have n7_ := Aside0.mk (below_step by_ hb); clear HO290; clear HO297; clear HO304; clear BK280; clear BK281; clear BK282; clear BK299; clear HB; have HO290 := n0_; have HO297 := n1_; have HO304 := n2_; have BK280 := n3_; have BK281 := n4_; have BK282 := n5_; have BK299 := n6_; have HB := n7_; clear n0_ n1_ n2_ n3_ n4_ n5_ n6_ n7_; (try clear hb); (try clear hb2); (try clear hk); (try clear hi)))
                      go_ret
                      exact ⟨by first | rfl | (simp [errW_none, errW_some] <;> rfl) | (simp [*, errW_none, errW_some] <;> rfl), by repeat (first | (with_reducible first | exact HB.out | apply below_alloc | apply pw_below_drewN | apply below_drew1 | refine below_set ?_ GE280.out | refine below_set ?_ GE281.out | refine below_set ?_ GE282.out | refine below_set ?_ GE299.out) | exact HB.out)⟩
                    · rw [if_neg c53] at H
                      exact absurd H (by simp)
                  · replace c52 := Bool.eq_false_iff.mpr c52
                    subst c52
                    have H1 : (some true) = some r := by rw [if_neg (show ¬ (false = true) by decide)] at H; exact H
                    clear H
                    have H := H1
                    clear H1
                    obtain rfl := Option.some.inj H
                    try go_wp2
                    have n0_ := Aside0.mk (blk_drew BK280.out)
                    have n1_ := Aside0.mk (blk_drew BK281.out)
                    have n2_ := Aside0.mk (blk_drew BK282.out)
                    have n3_ := Aside0.mk (below_drew1 HB.out)
                    clear BK280
                    clear BK281
                    clear BK282
                    clear HB
                    have BK280 := n0_
                    have BK281 := n1_
                    have BK282 := n2_
                    have HB := n3_
                    clear n0_ n1_ n2_ n3_
                    refine start_ (n := 9) (S := fun w' => w'.cell? ⟨gb280, 0, none⟩ = some (.int .i64 a0_0) ∧ w'.cell? ⟨gb280, 1, none⟩ = some (.int .i64 a0_1) ∧ w'.cell? ⟨gb280, 2, none⟩ = some (.slice A0_2 l0_2.length c0_2) ∧ w'.cell? ⟨gb281, 0, none⟩ = some (.int .i64 a1_0) ∧ w'.cell? ⟨gb281, 1, none⟩ = some (.int .i64 a1_1) ∧ w'.cell? ⟨gb281, 2, none⟩ = some (.int .i64 a1_2) ∧ w'.cell? ⟨gb281, 3, none⟩ = some (.int .i64 a1_3) ∧ w'.cell? ⟨gb281, 4, none⟩ = some (.int .i64 a1_4) ∧ w'.cell? ⟨gb281, 5, none⟩ = some (.int .i64 a1_5) ∧ w'.cell? ⟨gb281, 6, none⟩ = some (.int .i64 a1_6) ∧ w'.cell? ⟨gb281, 7, none⟩ = some (.int .i64 a1_7)) (ds := []) #[false, false, false, false, false, false, false, false, false] (by kernel_rfl) rfl rfl ⟨(blk_cell BK280.out 0).trans rfl, (blk_cell BK280.out 1).trans rfl, (blk_cell BK280.out 2).trans rfl, (blk_cell BK281.out 0).trans rfl, (blk_cell BK281.out 1).trans rfl, (blk_cell BK281.out 2).trans rfl, (blk_cell BK281.out 3).trans rfl, (blk_cell BK281.out 4).trans rfl, (blk_cell BK281.out 5).trans rfl, (blk_cell BK281.out 6).trans rfl, (blk_cell BK281.out 7).trans rfl⟩ (fun hHeld => ?_); refine with_tabW aviarylaw10_GraftFits.tab6 aviarylaw10_GraftFits.bits6 (fun HT_ HW_ => ?_)
                    generalize wc.drew = w78 at BK280 BK281 BK282 HB hHeld ⊢
                    refine take_ (i := 0) (N := some 42) (v := ?_) (a' := ?_) #[true, false, false, false, false, false, false, false, false] rfl rfl (take_ofW HT_.out HW_.out (by kernel_rfl)) (fun _ _ _ h => h) (Or.inl ⟨by rfl, ?_⟩) hHeld ?_ ?_
                    rotate_left
                    · rintro w' ⟨s0, s1, s2, s3, s4, s5, s6, s7, s8, s9, s10⟩
                      go_simp
                      with_reducible rfl
                    rotate_left
                    · simp only [Act.put, List.setIfInBounds_toArray, List.set_cons_zero, List.set_cons_succ, i64_w, i32_w]
                      rfl
                    refine take_ (i := 2) (N := some 44) (v := ?_) (a' := ?_) #[true, false, true, false, false, false, false, false, false] rfl rfl (take_ofW HT_.out HW_.out (by kernel_rfl)) (fun _ _ _ h => h) (Or.inl ⟨by rfl, ?_⟩) hHeld ?_ ?_
                    rotate_left
                    · rintro w' ⟨s0, s1, s2, s3, s4, s5, s6, s7, s8, s9, s10⟩
                      go_simp
                      with_reducible rfl
                    rotate_left
                    · simp only [Act.put, List.setIfInBounds_toArray, List.set_cons_zero, List.set_cons_succ, i64_w, i32_w]
                      rfl
                    refine one_ (i := 1) (N := some 43) #[true, true, true, false, false, false, false, false, false] rfl rfl (one_of HT_.out (by kernel_rfl)) (by decide) (fun K hK => ?_)
                    refine goes_ Try.func16 (by kernel_rfl) rfl #[.agg #[.int .i64 a0_0, .int .i64 a0_1, .slice A0_2 l0_2.length c0_2]] (by rfl) rfl rfl ar_ ?_
                    with_reducible refine (aviarylaw10_Own.calls a0_0 a0_1 _ _ l0_2 t286 t287 t288 _ ?side1 ?side2 A45.out).mono ?_
                    (case side1 => repeat (first | exact (Kd.C_below HR0_2.out HB.out) | (with_reducible refine Kd.C_alloc ?_ _) | (with_reducible refine Kd.C_drewN ?_ _) | (with_reducible refine Kd.C_drew ?_)))
                    (case side2 => exact HC0_2.out)
                    rintro e w79 ⟨v289, rfl, ho0, hb⟩
                    refine ⟨_, rfl, ?_⟩
                    have n0_ := Aside0.mk (Kd.S_lower ho0 (below_size by_))
                    have n1_ := Aside0.mk (blk_below (bkl_ BK280.out) hb)
                    have n2_ := Aside0.mk (blk_below (bkl_ BK281.out) hb)
                    have n3_ := Aside0.mk (blk_below (bkl_ BK282.out) hb)
                    have n4_ := Aside0.mk (below_step by_ hb)
                    clear BK280
                    clear BK281
                    clear BK282
                    clear HB
                    have HO290 := n0_
                    have BK280 := n1_
                    have BK281 := n2_
                    have BK282 := n3_
                    have HB := n4_
                    clear n0_ n1_ n2_ n3_ n4_
                    (try clear hb)
                    (try clear hb2)
                    (try clear hk)
                    (try clear hi)
                    (try clear ho0)
                    obtain ⟨Ao80, co80, eo80⟩ := Kd.S_slice HO290.out
                    (first | subst eo80 | (injection eo80 with f1_ f2_ f3_; have f4_ := f1_.symm; have f5_ := f3_.symm; clear f1_ f2_ f3_; subst f4_; subst f5_))
                    refine hK.out _ _ ⟨(blk_cell BK280.out 0).trans rfl, (blk_cell BK280.out 1).trans rfl, (blk_cell BK280.out 2).trans rfl, (blk_cell BK281.out 0).trans rfl, (blk_cell BK281.out 1).trans rfl, (blk_cell BK281.out 2).trans rfl, (blk_cell BK281.out 3).trans rfl, (blk_cell BK281.out 4).trans rfl, (blk_cell BK281.out 5).trans rfl, (blk_cell BK281.out 6).trans rfl, (blk_cell BK281.out 7).trans rfl⟩ (fun hHeld => ?_)
                    clear hK K
                    refine norm_ (a' := ?_) ?_ ?_
                    rotate_left
                    · show Act.put _ (some 43) _ = _
                      simp only [Act.put, List.setIfInBounds_toArray, List.set_cons_zero, List.set_cons_succ, i64_w, i32_w]
                      rfl
                    refine one_ (i := 3) (N := some 45) #[true, true, true, true, false, false, false, false, false] rfl rfl (one_of HT_.out (by kernel_rfl)) (by decide) (fun K hK => ?_)
                    refine goes_ Try.func17 (by kernel_rfl) rfl #[.agg #[.int .i64 t286, .int .i64 t287, .slice Ao80 t288.length co80], .agg #[.int .i64 a1_0, .int .i64 a1_1, .int .i64 a1_2, .int .i64 a1_3, .int .i64 a1_4, .int .i64 a1_5, .int .i64 a1_6, .int .i64 a1_7]] (by rfl) rfl rfl ar_ ?_
                    with_reducible refine (graft_Encode.calls kj32 t286 t287 _ _ t288 a1_0 a1_1 a1_2 a1_3 a1_4 a1_5 a1_6 a1_7 t291 t292 _ ?side1 ?side2 A46.out).mono ?_
                    (case side1 => repeat (first | exact (Kd.S_reads' HO290.out).2.2 | (with_reducible refine Kd.C_alloc ?_ _) | (with_reducible refine Kd.C_drewN ?_ _) | (with_reducible refine Kd.C_drew ?_)))
                    (case side2 => exact (Kd.S_reads' HO290.out).2.1)
                    rintro e w81 ⟨rfl, hb⟩
                    refine ⟨_, rfl, ?_⟩
                    have n0_ := Aside0.mk (Kd.S_below (by (with_reducible repeat (first | apply Kd.S_alloc | apply Kd.S_drewN | apply Kd.S_drew)); exact HO290.out) hb)
                    have n1_ := Aside0.mk (blk_below (bkl_ BK280.out) hb)
                    have n2_ := Aside0.mk (blk_below (bkl_ BK281.out) hb)
                    have n3_ := Aside0.mk (blk_below (bkl_ BK282.out) hb)
                    have n4_ := Aside0.mk (below_step by_ hb)
                    clear HO290
                    clear BK280
                    clear BK281
                    clear BK282
                    clear HB
                    have HO290 := n0_
                    have BK280 := n1_
                    have BK281 := n2_
                    have BK282 := n3_
                    have HB := n4_
                    clear n0_ n1_ n2_ n3_ n4_
                    (try clear hb)
                    (try clear hb2)
                    (try clear hk)
                    (try clear hi)
                    refine hK.out _ _ ⟨(blk_cell BK280.out 0).trans rfl, (blk_cell BK280.out 1).trans rfl, (blk_cell BK280.out 2).trans rfl, (blk_cell BK281.out 0).trans rfl, (blk_cell BK281.out 1).trans rfl, (blk_cell BK281.out 2).trans rfl, (blk_cell BK281.out 3).trans rfl, (blk_cell BK281.out 4).trans rfl, (blk_cell BK281.out 5).trans rfl, (blk_cell BK281.out 6).trans rfl, (blk_cell BK281.out 7).trans rfl⟩ (fun hHeld => ?_)
                    clear hK K
                    refine norm_ (a' := ?_) ?_ ?_
                    rotate_left
                    · show Act.put _ (some 45) _ = _
                      simp only [Act.put, List.setIfInBounds_toArray, List.set_cons_zero, List.set_cons_succ, i64_w, i32_w]
                      rfl
                    refine pure_ (i := 4) (N := some 41) (v := ?_) (a' := ?_) #[true, true, true, true, true, false, false, false, false] rfl rfl (any_of HT_.out (by kernel_rfl)) (fun _ _ _ h => h) (Or.inl ⟨by rfl, ?_⟩) ?_ ?_
                    rotate_left
                    · intro w'
                      go_simp
                      with_reducible rfl
                    rotate_left
                    · simp only [Act.put, List.setIfInBounds_toArray, List.set_cons_zero, List.set_cons_succ, i64_w, i32_w]
                      rfl
                    refine pure_ (i := 5) (N := some 46) (v := ?_) (a' := ?_) #[true, true, true, true, true, true, false, false, false] rfl rfl (any_of HT_.out (by kernel_rfl)) (fun _ _ _ h => h) (Or.inl ⟨by rfl, ?_⟩) ?_ ?_
                    rotate_left
                    · intro w'
                      go_simp
                      with_reducible rfl
                    rotate_left
                    · simp only [Act.put, List.setIfInBounds_toArray, List.set_cons_zero, List.set_cons_succ, i64_w, i32_w]
                      rfl
                    refine pure_ (i := 6) (N := some 47) (v := ?_) (a' := ?_) #[true, true, true, true, true, true, true, false, false] rfl rfl (any_of HT_.out (by kernel_rfl)) (fun _ _ _ h => h) (Or.inl ⟨by rfl, ?_⟩) ?_ ?_
                    rotate_left
                    · intro w'
                      go_simp
                      with_reducible rfl
                    rotate_left
                    · simp only [Act.put, List.setIfInBounds_toArray, List.set_cons_zero, List.set_cons_succ, i64_w, i32_w]
                      rfl
                    refine pure_ (i := 7) (N := some 8) (v := ?_) (a' := ?_) #[true, true, true, true, true, true, true, true, false] rfl rfl (any_of HT_.out (by kernel_rfl)) (fun _ _ _ h => h) (Or.inl ⟨by rfl, ?_⟩) ?_ ?_
                    rotate_left
                    · intro w'
                      go_simp
                      with_reducible rfl
                    rotate_left
                    · simp only [Act.put, List.setIfInBounds_toArray, List.set_cons_zero, List.set_cons_succ, i64_w, i32_w]
                      rfl
                    refine pure_ (i := 8) (N := some 9) (v := ?_) (a' := ?_) #[true, true, true, true, true, true, true, true, true] rfl rfl (any_of HT_.out (by kernel_rfl)) (fun _ _ _ h => h) (Or.inl ⟨by rfl, ?_⟩) ?_ ?_
                    rotate_left
                    · intro w'
                      go_simp
                      with_reducible rfl
                    rotate_left
                    · simp only [Act.put, List.setIfInBounds_toArray, List.set_cons_zero, List.set_cons_succ, i64_w, i32_w]
                      rfl
                    refine done_ (done_of HT_.out (by kernel_rfl)) ?_
                    have hnb82 := NB282_280.out
                    have hnc82 := NB280_282.out
                    have hnb83 := NB282_281.out
                    have hnc83 := NB281_282.out
                    have hcz84_0 : w81.cell? ⟨gb282, 0, none⟩ = some (.int .i64 a2_0) := (blk_cell BK282.out 0).trans rfl
                    have hcz84_1 : w81.cell? ⟨gb282, 1, none⟩ = some (.int .i64 a2_1) := (blk_cell BK282.out 1).trans rfl
                    have hcz84_2 : w81.cell? ⟨gb282, 2, none⟩ = some (.int .i64 a2_2) := (blk_cell BK282.out 2).trans rfl
                    have hcz84_3 : w81.cell? ⟨gb282, 3, none⟩ = some (.int .i64 a2_3) := (blk_cell BK282.out 3).trans rfl
                    have hcz84_4 : w81.cell? ⟨gb282, 4, none⟩ = some (.int .i64 a2_4) := (blk_cell BK282.out 4).trans rfl
                    have hcz84_5 : w81.cell? ⟨gb282, 5, none⟩ = some (.int .i64 a2_5) := (blk_cell BK282.out 5).trans rfl
                    have hcz84_6 : w81.cell? ⟨gb282, 6, none⟩ = some (.int .i64 a2_6) := (blk_cell BK282.out 6).trans rfl
                    have hcz84_7 : w81.cell? ⟨gb282, 7, none⟩ = some (.int .i64 a2_7) := (blk_cell BK282.out 7).trans rfl
                    have hfz84_0 := blk_frozen BK282.out 0
                    have hfz84_1 := blk_frozen BK282.out 1
                    have hfz84_2 := blk_frozen BK282.out 2
                    have hfz84_3 := blk_frozen BK282.out 3
                    have hfz84_4 := blk_frozen BK282.out 4
                    have hfz84_5 := blk_frozen BK282.out 5
                    have hfz84_6 := blk_frozen BK282.out 6
                    have hfz84_7 := blk_frozen BK282.out 7
                    try go_wp2_with (first | ((with_reducible refine gate_callee (f := 24) rfl ?_); refine goesL_ (some 51) rfl rfl Try.func24 (by kernel_rfl) rfl #[.string t291, .agg #[.int .i64 a2_0, .int .i64 a2_1, .int .i64 a2_2, .int .i64 a2_3, .int .i64 a2_4, .int .i64 a2_5, .int .i64 a2_6, .int .i64 a2_7]] rfl ar_ ?_; (with_reducible refine (graft_Decode.calls kj32 t291 a2_0 a2_1 a2_2 a2_3 a2_4 a2_5 a2_6 a2_7 t293 t294 t295 t298 _ A47.out).mono ?_); rintro e w85 ⟨v296, rfl, ho0, hb⟩; refine ⟨_, rfl, ?_⟩; have n0_ := Aside0.mk (Kd.S_elder' (by (with_reducible repeat (first | apply Kd.S_alloc | apply Kd.S_drewN | apply Kd.S_drew)); exact HO290.out) (Kd.S_base ho0) hb); have n1_ := Aside0.mk (Kd.S_lower (Kd.S_new' ho0 (Kd.S_lt (by (with_reducible repeat (first | apply Kd.S_alloc | apply Kd.S_drewN | apply Kd.S_drew)); exact HO290.out))) (below_size by_)); have n2_ := Aside0.mk (blk_below (bkl_ BK280.out) hb); have n3_ := Aside0.mk (blk_below (bkl_ BK281.out) hb); have n4_ := Aside0.mk (blk_below (bkl_ BK282.out) hb); have n5_ := Aside0.mk (below_step by_ hb); clear HO290; clear BK280; clear BK281; clear BK282; clear HB; have HO290 := n0_; have HO297 := n1_; have BK280 := n2_; have BK281 := n3_; have BK282 := n4_; have HB := n5_; clear n0_ n1_ n2_ n3_ n4_ n5_; (try clear hb); (try clear hb2); (try clear hk); (try clear hi); (try clear ho0)) | ((with_reducible refine gate_dst (N := 10) rfl ?_); refine box_event ?hg (N := 10) ?hd (cs := #[.int .i64 0, .int .i64 0, .slice none 0 0]) (t := 27) ?hr ?_; (case hd => rfl); (case hg => rfl); (case hr => first | (go_simp; done) | (go_simp; rfl)); intro gb299 hg w86 hbox hb; have n0_ := Aside0.mk (Kd.S_below (by (with_reducible repeat (first | apply Kd.S_alloc | apply Kd.S_drewN | apply Kd.S_drew)); exact HO290.out) hb); have n1_ := Aside0.mk (Kd.S_below (by (with_reducible repeat (first | apply Kd.S_alloc | apply Kd.S_drewN | apply Kd.S_drew)); exact HO297.out) hb); have n2_ := Aside0.mk (blk_below (bkl_ BK280.out) hb); have n3_ := Aside0.mk (blk_below (bkl_ BK281.out) hb); have n4_ := Aside0.mk (blk_below (bkl_ BK282.out) hb); have n5_ := Aside0.mk (below_step by_ hb); have n6_ := Aside0.mk (hbox); have n7_ := Aside0.mk ((by rw [hg]; exact (below_size by_) : w.heap.size ≤ gb299)); have n8_ := Aside0.mk ((by rw [hg]; exact (below_size by_) : w.heap.size ≤ gb299)); have n9_ := Aside0.mk ((by rw [hg]; exact Nat.ne_of_lt (blk_lt (bkl_ BK280.out)) : gb280 ≠ gb299)); have n10_ := Aside0.mk ((by rw [hg]; exact Nat.ne_of_gt (blk_lt (bkl_ BK280.out)) : gb299 ≠ gb280)); have n11_ := Aside0.mk ((by rw [hg]; exact Nat.ne_of_lt (blk_lt (bkl_ BK281.out)) : gb281 ≠ gb299)); have n12_ := Aside0.mk ((by rw [hg]; exact Nat.ne_of_gt (blk_lt (bkl_ BK281.out)) : gb299 ≠ gb281)); have n13_ := Aside0.mk ((by rw [hg]; exact Nat.ne_of_lt (blk_lt (bkl_ BK282.out)) : gb282 ≠ gb299)); have n14_ := Aside0.mk ((by rw [hg]; exact Nat.ne_of_gt (blk_lt (bkl_ BK282.out)) : gb299 ≠ gb282)); clear HO290; clear HO297; clear BK280; clear BK281; clear BK282; clear HB; have HO290 := n0_; have HO297 := n1_; have BK280 := n2_; have BK281 := n3_; have BK282 := n4_; have HB := n5_; have BK299 := n6_; have GW299 := n7_; have GE299 := n8_; have NB280_299 := n9_; have NB299_280 := n10_; have NB281_299 := n11_; have NB299_281 := n12_; have NB282_299 := n13_; have NB299_282 := n14_; clear n0_ n1_ n2_ n3_ n4_ n5_ n6_ n7_ n8_ n9_ n10_ n11_ n12_ n13_ n14_; clear hb hbox hg; have hnb87 := NB299_280.out; have hnc87 := NB280_299.out; have hnb88 := NB299_281.out; have hnc88 := NB281_299.out; have hnb89 := NB299_282.out; have hnc89 := NB282_299.out; have hcz90_0 : w86.cell? ⟨gb299, 0, none⟩ = some (.int .i64 0) := (blk_cell BK299.out 0).trans rfl; have hcz90_1 : w86.cell? ⟨gb299, 1, none⟩ = some (.int .i64 0) := (blk_cell BK299.out 1).trans rfl; have hcz90_2 : w86.cell? ⟨gb299, 2, none⟩ = some (.slice none 0 0) := (blk_cell BK299.out 2).trans rfl; have hfz90_0 := blk_frozen BK299.out 0; have hfz90_1 := blk_frozen BK299.out 1; have hfz90_2 := blk_frozen BK299.out 2; obtain ⟨Ao91, co91, eo91⟩ := Kd.S_slice HO297.out; subst eo91))
                    have n0_ : Aside0 (Kd.S k59 59 (((w86.setCell ⟨gb299, 0, none⟩ (.int .i64 t293)).setCell ⟨gb299, 1, none⟩ (.int .i64 t294)).setCell ⟨gb299, 2, none⟩ (.slice Ao91 t295.length co91)) w.heap.size (fun k_ => some k_ ≠ (.slice Ao91 t295.length co91 : Value).ownBlock) (.slice Ao80 t288.length co80) t288) := ⟨by (with_reducible repeat (first | apply Kd.S_alloc | apply Kd.S_drewN | apply Kd.S_drew)); exact Kd.S_mono (Kd.S_far (p := ⟨gb299, 2, none⟩) (Kd.S_far (p := ⟨gb299, 1, none⟩) (Kd.S_far (p := ⟨gb299, 0, none⟩) (Kd.S_types HO290.out BK299.out (by decide)) (fun _ hk => hk.2) (.int .i64 t293)) (fun _ hk => hk.2) (.int .i64 t294)) (fun _ hk => hk.2) (.slice Ao91 t295.length co91)) (fun _ hk => hk.1.2)⟩
                    have n1_ : Aside0 (Kd.S k59 59 (((w86.setCell ⟨gb299, 0, none⟩ (.int .i64 t293)).setCell ⟨gb299, 1, none⟩ (.int .i64 t294)).setCell ⟨gb299, 2, none⟩ (.slice Ao91 t295.length co91)) w.heap.size (fun k_ => some k_ ≠ (.slice Ao80 t288.length co80 : Value).ownBlock) (.slice Ao91 t295.length co91) t295) := ⟨by (with_reducible repeat (first | apply Kd.S_alloc | apply Kd.S_drewN | apply Kd.S_drew)); exact Kd.S_mono (Kd.S_far (p := ⟨gb299, 2, none⟩) (Kd.S_far (p := ⟨gb299, 1, none⟩) (Kd.S_far (p := ⟨gb299, 0, none⟩) (Kd.S_types HO297.out BK299.out (by decide)) (fun _ hk => hk.2) (.int .i64 t293)) (fun _ hk => hk.2) (.int .i64 t294)) (fun _ hk => hk.2) (.slice Ao91 t295.length co91)) (fun _ hk => hk.1.2)⟩
                    have n2_ : Aside0 ((((w86.setCell ⟨gb299, 0, none⟩ (.int .i64 t293)).setCell ⟨gb299, 1, none⟩ (.int .i64 t294)).setCell ⟨gb299, 2, none⟩ (.slice Ao91 t295.length co91)).heap[gb280]? = some (.cells #[.int .i64 a0_0, .int .i64 a0_1, .slice A0_2 l0_2.length c0_2] 27 (0, 0))) := ⟨by (with_reducible repeat (first | refine blk_drewN ?_ _ | refine blk_drew ?_ | refine blk_alloc ?_ _)); refine blk_far ?_ NB280_299.out _; (with_reducible repeat (first | refine blk_drewN ?_ _ | refine blk_drew ?_ | refine blk_alloc ?_ _)); refine blk_far ?_ NB280_299.out _; (with_reducible repeat (first | refine blk_drewN ?_ _ | refine blk_drew ?_ | refine blk_alloc ?_ _)); refine blk_far ?_ NB280_299.out _; (with_reducible repeat (first | refine blk_drewN ?_ _ | refine blk_drew ?_ | refine blk_alloc ?_ _)); exact BK280.out⟩
                    have n3_ : Aside0 ((((w86.setCell ⟨gb299, 0, none⟩ (.int .i64 t293)).setCell ⟨gb299, 1, none⟩ (.int .i64 t294)).setCell ⟨gb299, 2, none⟩ (.slice Ao91 t295.length co91)).heap[gb281]? = some (.cells #[.int .i64 a1_0, .int .i64 a1_1, .int .i64 a1_2, .int .i64 a1_3, .int .i64 a1_4, .int .i64 a1_5, .int .i64 a1_6, .int .i64 a1_7] 23 (0, 0))) := ⟨by (with_reducible repeat (first | refine blk_drewN ?_ _ | refine blk_drew ?_ | refine blk_alloc ?_ _)); refine blk_far ?_ NB281_299.out _; (with_reducible repeat (first | refine blk_drewN ?_ _ | refine blk_drew ?_ | refine blk_alloc ?_ _)); refine blk_far ?_ NB281_299.out _; (with_reducible repeat (first | refine blk_drewN ?_ _ | refine blk_drew ?_ | refine blk_alloc ?_ _)); refine blk_far ?_ NB281_299.out _; (with_reducible repeat (first | refine blk_drewN ?_ _ | refine blk_drew ?_ | refine blk_alloc ?_ _)); exact BK281.out⟩
                    have n4_ : Aside0 ((((w86.setCell ⟨gb299, 0, none⟩ (.int .i64 t293)).setCell ⟨gb299, 1, none⟩ (.int .i64 t294)).setCell ⟨gb299, 2, none⟩ (.slice Ao91 t295.length co91)).heap[gb282]? = some (.cells #[.int .i64 a2_0, .int .i64 a2_1, .int .i64 a2_2, .int .i64 a2_3, .int .i64 a2_4, .int .i64 a2_5, .int .i64 a2_6, .int .i64 a2_7] 23 (0, 0))) := ⟨by (with_reducible repeat (first | refine blk_drewN ?_ _ | refine blk_drew ?_ | refine blk_alloc ?_ _)); refine blk_far ?_ NB282_299.out _; (with_reducible repeat (first | refine blk_drewN ?_ _ | refine blk_drew ?_ | refine blk_alloc ?_ _)); refine blk_far ?_ NB282_299.out _; (with_reducible repeat (first | refine blk_drewN ?_ _ | refine blk_drew ?_ | refine blk_alloc ?_ _)); refine blk_far ?_ NB282_299.out _; (with_reducible repeat (first | refine blk_drewN ?_ _ | refine blk_drew ?_ | refine blk_alloc ?_ _)); exact BK282.out⟩
                    have n5_ : Aside0 ((((w86.setCell ⟨gb299, 0, none⟩ (.int .i64 t293)).setCell ⟨gb299, 1, none⟩ (.int .i64 t294)).setCell ⟨gb299, 2, none⟩ (.slice Ao91 t295.length co91)).heap[gb299]? = some (.cells #[.int .i64 t293, .int .i64 t294, .slice Ao91 t295.length co91] 27 (0, 0))) := ⟨by (with_reducible repeat (first | refine blk_drewN ?_ _ | refine blk_drew ?_ | refine blk_alloc ?_ _)); refine blk_put (cs := #[.int .i64 t293, .int .i64 t294, .slice none 0 0]) ?_ 2 _ rfl; (with_reducible repeat (first | refine blk_drewN ?_ _ | refine blk_drew ?_ | refine blk_alloc ?_ _)); refine blk_put (cs := #[.int .i64 t293, .int .i64 0, .slice none 0 0]) ?_ 1 _ rfl; (with_reducible repeat (first | refine blk_drewN ?_ _ | refine blk_drew ?_ | refine blk_alloc ?_ _)); refine blk_put (cs := #[.int .i64 0, .int .i64 0, .slice none 0 0]) ?_ 0 _ rfl; (with_reducible repeat (first | refine blk_drewN ?_ _ | refine blk_drew ?_ | refine blk_alloc ?_ _)); exact BK299.out⟩
                    have n6_ : Aside0 (Below w.heap.size w (((w86.setCell ⟨gb299, 0, none⟩ (.int .i64 t293)).setCell ⟨gb299, 1, none⟩ (.int .i64 t294)).setCell ⟨gb299, 2, none⟩ (.slice Ao91 t295.length co91))) := ⟨by repeat (first | (with_reducible first | exact HB.out | apply below_alloc | apply pw_below_drewN | apply below_drew1 | refine below_set ?_ GE280.out | refine below_set ?_ GE281.out | refine below_set ?_ GE282.out | refine below_set ?_ GE299.out) | exact HB.out)⟩
                    (try clear HO290)
                    (try clear HO297)
                    (try clear BK280)
                    (try clear BK281)
                    (try clear BK282)
                    (try clear BK299)
                    (try clear HB)
                    generalize (((w86.setCell ⟨gb299, 0, none⟩ (.int .i64 t293)).setCell ⟨gb299, 1, none⟩ (.int .i64 t294)).setCell ⟨gb299, 2, none⟩ (.slice Ao91 t295.length co91)) = w92 at n0_ n1_ n2_ n3_ n4_ n5_ n6_ ⊢
                    have HO290 := n0_
                    have HO297 := n1_
                    have BK280 := n2_
                    have BK281 := n3_
                    have BK282 := n4_
                    have BK299 := n5_
                    have HB := n6_
                    clear n0_ n1_ n2_ n3_ n4_ n5_ n6_
                    have n0_ := Aside0.mk (Kd.S_drew HO290.out)
                    have n1_ := Aside0.mk (Kd.S_drew HO297.out)
                    have n2_ := Aside0.mk (blk_drew BK280.out)
                    have n3_ := Aside0.mk (blk_drew BK281.out)
                    have n4_ := Aside0.mk (blk_drew BK282.out)
                    have n5_ := Aside0.mk (blk_drew BK299.out)
                    have n6_ := Aside0.mk (below_drew1 HB.out)
                    clear HO290
                    clear HO297
                    clear BK280
                    clear BK281
                    clear BK282
                    clear BK299
                    clear HB
                    have HO290 := n0_
                    have HO297 := n1_
                    have BK280 := n2_
                    have BK281 := n3_
                    have BK282 := n4_
                    have BK299 := n5_
                    have HB := n6_
                    clear n0_ n1_ n2_ n3_ n4_ n5_ n6_
                    refine start_ (n := 11) (S := fun w' => w'.cell? ⟨gb280, 0, none⟩ = some (.int .i64 a0_0) ∧ w'.cell? ⟨gb280, 1, none⟩ = some (.int .i64 a0_1) ∧ w'.cell? ⟨gb280, 2, none⟩ = some (.slice A0_2 l0_2.length c0_2) ∧ w'.cell? ⟨gb282, 0, none⟩ = some (.int .i64 a2_0) ∧ w'.cell? ⟨gb282, 1, none⟩ = some (.int .i64 a2_1) ∧ w'.cell? ⟨gb282, 2, none⟩ = some (.int .i64 a2_2) ∧ w'.cell? ⟨gb282, 3, none⟩ = some (.int .i64 a2_3) ∧ w'.cell? ⟨gb282, 4, none⟩ = some (.int .i64 a2_4) ∧ w'.cell? ⟨gb282, 5, none⟩ = some (.int .i64 a2_5) ∧ w'.cell? ⟨gb282, 6, none⟩ = some (.int .i64 a2_6) ∧ w'.cell? ⟨gb282, 7, none⟩ = some (.int .i64 a2_7)) (ds := []) #[false, false, false, false, false, false, false, false, false, false, false] (by kernel_rfl) rfl rfl ⟨(blk_cell BK280.out 0).trans rfl, (blk_cell BK280.out 1).trans rfl, (blk_cell BK280.out 2).trans rfl, (blk_cell BK282.out 0).trans rfl, (blk_cell BK282.out 1).trans rfl, (blk_cell BK282.out 2).trans rfl, (blk_cell BK282.out 3).trans rfl, (blk_cell BK282.out 4).trans rfl, (blk_cell BK282.out 5).trans rfl, (blk_cell BK282.out 6).trans rfl, (blk_cell BK282.out 7).trans rfl⟩ (fun hHeld => ?_); refine with_tabW aviarylaw10_GraftFits.tab8 aviarylaw10_GraftFits.bits8 (fun HT_ HW_ => ?_)
                    generalize w92.drew = w93 at HO290 HO297 BK280 BK281 BK282 BK299 HB hHeld ⊢
                    refine pure_ (i := 0) (N := some 54) (v := ?_) (a' := ?_) #[true, false, false, false, false, false, false, false, false, false, false] rfl rfl (any_of HT_.out (by kernel_rfl)) (fun _ _ _ h => h) (Or.inl ⟨by rfl, ?_⟩) ?_ ?_
                    rotate_left
                    · intro w'
                      go_simp
                      with_reducible rfl
                    rotate_left
                    · simp only [Act.put, List.setIfInBounds_toArray, List.set_cons_zero, List.set_cons_succ, i64_w, i32_w]
                      rfl
                    refine pure_ (i := 1) (N := some 55) (v := ?_) (a' := ?_) #[true, true, false, false, false, false, false, false, false, false, false] rfl rfl (any_of HT_.out (by kernel_rfl)) (fun _ _ _ h => h) (Or.inl ⟨by rfl, ?_⟩) ?_ ?_
                    rotate_left
                    · intro w'
                      go_simp
                      with_reducible rfl
                    rotate_left
                    · simp only [Act.put, List.setIfInBounds_toArray, List.set_cons_zero, List.set_cons_succ, i64_w, i32_w]
                      rfl
                    refine pure_ (i := 2) (N := some 56) (v := ?_) (a' := ?_) #[true, true, true, false, false, false, false, false, false, false, false] rfl rfl (any_of HT_.out (by kernel_rfl)) (fun _ _ _ h => h) (Or.inl ⟨by rfl, ?_⟩) ?_ ?_
                    rotate_left
                    · intro w'
                      go_simp
                      with_reducible rfl
                    rotate_left
                    · simp only [Act.put, List.setIfInBounds_toArray, List.set_cons_zero, List.set_cons_succ, i64_w, i32_w]
                      rfl
                    refine pure_ (i := 8) (N := some 62) (v := ?_) (a' := ?_) #[true, true, true, false, false, false, false, false, true, false, false] rfl rfl (any_of HT_.out (by kernel_rfl)) (fun _ _ _ h => h) (Or.inl ⟨by rfl, ?_⟩) ?_ ?_
                    rotate_left
                    · intro w'
                      go_simp
                      with_reducible rfl
                    rotate_left
                    · simp only [Act.put, List.setIfInBounds_toArray, List.set_cons_zero, List.set_cons_succ, i64_w, i32_w]
                      rfl
                    refine take_ (i := 3) (N := some 57) (v := ?_) (a' := ?_) #[true, true, true, true, false, false, false, false, true, false, false] rfl rfl (take_ofW HT_.out HW_.out (by kernel_rfl)) (fun _ _ _ h => h) (Or.inl ⟨by rfl, ?_⟩) hHeld ?_ ?_
                    rotate_left
                    · rintro w' ⟨s0, s1, s2, s3, s4, s5, s6, s7, s8, s9, s10⟩
                      go_simp
                      with_reducible rfl
                    rotate_left
                    · simp only [Act.put, List.setIfInBounds_toArray, List.set_cons_zero, List.set_cons_succ, i64_w, i32_w]
                      rfl
                    refine take_ (i := 5) (N := some 59) (v := ?_) (a' := ?_) #[true, true, true, true, false, true, false, false, true, false, false] rfl rfl (take_ofW HT_.out HW_.out (by kernel_rfl)) (fun _ _ _ h => h) (Or.inl ⟨by rfl, ?_⟩) hHeld ?_ ?_
                    rotate_left
                    · rintro w' ⟨s0, s1, s2, s3, s4, s5, s6, s7, s8, s9, s10⟩
                      go_simp
                      with_reducible rfl
                    rotate_left
                    · simp only [Act.put, List.setIfInBounds_toArray, List.set_cons_zero, List.set_cons_succ, i64_w, i32_w]
                      rfl
                    refine one_ (i := 4) (N := some 58) #[true, true, true, true, true, true, false, false, true, false, false] rfl rfl (one_of HT_.out (by kernel_rfl)) (by decide) (fun K hK => ?_)
                    refine goes_ Try.func16 (by kernel_rfl) rfl #[.agg #[.int .i64 a0_0, .int .i64 a0_1, .slice A0_2 l0_2.length c0_2]] (by rfl) rfl rfl ar_ ?_
                    with_reducible refine (aviarylaw10_Own.calls a0_0 a0_1 _ _ l0_2 t300 t301 t302 _ ?side1 ?side2 A49.out).mono ?_
                    (case side1 => repeat (first | exact (Kd.C_below HR0_2.out HB.out) | (with_reducible refine Kd.C_alloc ?_ _) | (with_reducible refine Kd.C_drewN ?_ _) | (with_reducible refine Kd.C_drew ?_)))
                    (case side2 => exact HC0_2.out)
                    rintro e w94 ⟨v303, rfl, ho0, hb⟩
                    refine ⟨_, rfl, ?_⟩
                    have n0_ := Aside0.mk (Kd.S_elder' (by (with_reducible repeat (first | apply Kd.S_alloc | apply Kd.S_drewN | apply Kd.S_drew)); exact HO290.out) (Kd.S_base ho0) hb)
                    have n1_ := Aside0.mk (Kd.S_elder' (by (with_reducible repeat (first | apply Kd.S_alloc | apply Kd.S_drewN | apply Kd.S_drew)); exact HO297.out) (Kd.S_base ho0) hb)
                    have n2_ := Aside0.mk (Kd.S_lower (Kd.S_new' (Kd.S_new' ho0 (Kd.S_lt (by (with_reducible repeat (first | apply Kd.S_alloc | apply Kd.S_drewN | apply Kd.S_drew)); exact HO290.out))) (Kd.S_lt (by (with_reducible repeat (first | apply Kd.S_alloc | apply Kd.S_drewN | apply Kd.S_drew)); exact HO297.out))) (below_size by_))
                    have n3_ := Aside0.mk (blk_below (bkl_ BK280.out) hb)
                    have n4_ := Aside0.mk (blk_below (bkl_ BK281.out) hb)
                    have n5_ := Aside0.mk (blk_below (bkl_ BK282.out) hb)
                    have n6_ := Aside0.mk (blk_below (bkl_ BK299.out) hb)
                    have n7_ := Aside0.mk (below_step by_ hb)
                    clear HO290
                    clear HO297
                    clear BK280
                    clear BK281
                    clear BK282
                    clear BK299
                    clear HB
                    have HO290 := n0_
                    have HO297 := n1_
                    have HO304 := n2_
                    have BK280 := n3_
                    have BK281 := n4_
                    have BK282 := n5_
                    have BK299 := n6_
                    have HB := n7_
                    clear n0_ n1_ n2_ n3_ n4_ n5_ n6_ n7_
                    (try clear hb)
                    (try clear hb2)
                    (try clear hk)
                    (try clear hi)
                    (try clear ho0)
                    obtain ⟨Ao95, co95, eo95⟩ := Kd.S_slice HO304.out
                    (first | subst eo95 | (injection eo95 with f1_ f2_ f3_; have f4_ := f1_.symm; have f5_ := f3_.symm; clear f1_ f2_ f3_; subst f4_; subst f5_))
                    refine hK.out _ _ ⟨(blk_cell BK280.out 0).trans rfl, (blk_cell BK280.out 1).trans rfl, (blk_cell BK280.out 2).trans rfl, (blk_cell BK282.out 0).trans rfl, (blk_cell BK282.out 1).trans rfl, (blk_cell BK282.out 2).trans rfl, (blk_cell BK282.out 3).trans rfl, (blk_cell BK282.out 4).trans rfl, (blk_cell BK282.out 5).trans rfl, (blk_cell BK282.out 6).trans rfl, (blk_cell BK282.out 7).trans rfl⟩ (fun hHeld => ?_)
                    clear hK K
                    refine norm_ (a' := ?_) ?_ ?_
                    rotate_left
                    · show Act.put _ (some 58) _ = _
                      simp only [Act.put, List.setIfInBounds_toArray, List.set_cons_zero, List.set_cons_succ, i64_w, i32_w]
                      rfl
                    refine one_ (i := 6) (N := some 60) #[true, true, true, true, true, true, true, false, true, false, false] rfl rfl (one_of HT_.out (by kernel_rfl)) (by decide) (fun K hK => ?_)
                    refine goes_ Try.func19 (by kernel_rfl) rfl #[.agg #[.int .i64 t300, .int .i64 t301, .slice Ao95 t302.length co95], .agg #[.int .i64 a2_0, .int .i64 a2_1, .int .i64 a2_2, .int .i64 a2_3, .int .i64 a2_4, .int .i64 a2_5, .int .i64 a2_6, .int .i64 a2_7]] (by rfl) rfl rfl ar_ ?_
                    with_reducible refine (graft_Check.calls kj32 t300 t301 _ _ t302 a2_0 a2_1 a2_2 a2_3 a2_4 a2_5 a2_6 a2_7 t305 _ ?side1 ?side2 A50.out).mono ?_
                    (case side1 => repeat (first | exact (Kd.S_reads' HO304.out).2.2 | (with_reducible refine Kd.C_alloc ?_ _) | (with_reducible refine Kd.C_drewN ?_ _) | (with_reducible refine Kd.C_drew ?_)))
                    (case side2 => exact (Kd.S_reads' HO304.out).2.1)
                    rintro e w96 ⟨rfl, hb⟩
                    refine ⟨_, rfl, ?_⟩
                    have n0_ := Aside0.mk (Kd.S_below (by (with_reducible repeat (first | apply Kd.S_alloc | apply Kd.S_drewN | apply Kd.S_drew)); exact HO290.out) hb)
                    have n1_ := Aside0.mk (Kd.S_below (by (with_reducible repeat (first | apply Kd.S_alloc | apply Kd.S_drewN | apply Kd.S_drew)); exact HO297.out) hb)
                    have n2_ := Aside0.mk (Kd.S_below (by (with_reducible repeat (first | apply Kd.S_alloc | apply Kd.S_drewN | apply Kd.S_drew)); exact HO304.out) hb)
                    have n3_ := Aside0.mk (blk_below (bkl_ BK280.out) hb)
                    have n4_ := Aside0.mk (blk_below (bkl_ BK281.out) hb)
                    have n5_ := Aside0.mk (blk_below (bkl_ BK282.out) hb)
                    have n6_ := Aside0.mk (blk_below (bkl_ BK299.out) hb)
                    have n7_ := Aside0.mk (below_step by_ hb)
                    clear HO290
                    clear HO297
                    clear HO304
                    clear BK280
                    clear BK281
                    clear BK282
                    clear BK299
                    clear HB
                    have HO290 := n0_
                    have HO297 := n1_
                    have HO304 := n2_
                    have BK280 := n3_
                    have BK281 := n4_
                    have BK282 := n5_
                    have BK299 := n6_
                    have HB := n7_
                    clear n0_ n1_ n2_ n3_ n4_ n5_ n6_ n7_
                    (try clear hb)
                    (try clear hb2)
                    (try clear hk)
                    (try clear hi)
                    refine hK.out _ _ ⟨(blk_cell BK280.out 0).trans rfl, (blk_cell BK280.out 1).trans rfl, (blk_cell BK280.out 2).trans rfl, (blk_cell BK282.out 0).trans rfl, (blk_cell BK282.out 1).trans rfl, (blk_cell BK282.out 2).trans rfl, (blk_cell BK282.out 3).trans rfl, (blk_cell BK282.out 4).trans rfl, (blk_cell BK282.out 5).trans rfl, (blk_cell BK282.out 6).trans rfl, (blk_cell BK282.out 7).trans rfl⟩ (fun hHeld => ?_)
                    clear hK K
                    refine norm_ (a' := ?_) ?_ ?_
                    rotate_left
                    · show Act.put _ (some 60) _ = _
                      simp only [Act.put, List.setIfInBounds_toArray, List.set_cons_zero, List.set_cons_succ, i64_w, i32_w]
                      rfl
                    refine pure_ (i := 7) (N := some 61) (v := ?_) (a' := ?_) #[true, true, true, true, true, true, true, true, true, false, false] rfl rfl (any_of HT_.out (by kernel_rfl)) (fun _ _ _ h => h) (Or.inl ⟨by rfl, ?_⟩) ?_ ?_
                    rotate_left
                    · intro w'
                      go_simp
                      with_reducible rfl
                    rotate_left
                    · simp only [Act.put, List.setIfInBounds_toArray, List.set_cons_zero, List.set_cons_succ, i64_w, i32_w]
                      rfl
                    refine pure_ (i := 9) (N := some 63) (v := ?_) (a' := ?_) #[true, true, true, true, true, true, true, true, true, true, false] rfl rfl (any_of HT_.out (by kernel_rfl)) (fun _ _ _ h => h) (Or.inl ⟨by rfl, ?_⟩) ?_ ?_
                    rotate_left
                    · intro w'
                      go_simp
                      with_reducible rfl
                    rotate_left
                    · simp only [Act.put, List.setIfInBounds_toArray, List.set_cons_zero, List.set_cons_succ, i64_w, i32_w]
                      rfl
                    refine pure_ (i := 10) (N := some 64) (v := ?_) (a' := ?_) #[true, true, true, true, true, true, true, true, true, true, true] rfl rfl (any_of HT_.out (by kernel_rfl)) (fun _ _ _ h => h) (Or.inl ⟨by rfl, ?_⟩) ?_ ?_
                    rotate_left
                    · intro w'
                      go_simp
                      with_reducible rfl
                    rotate_left
                    · simp only [Act.put, List.setIfInBounds_toArray, List.set_cons_zero, List.set_cons_succ, i64_w, i32_w]
                      rfl
                    refine done_ (done_of HT_.out (by kernel_rfl)) ?_
                    try go_wp2
                    go_ret
                    exact ⟨by first | rfl | (simp [errW_none, errW_some] <;> rfl) | (simp [*, errW_none, errW_some] <;> rfl), by repeat (first | (with_reducible first | exact HB.out | apply below_alloc | apply pw_below_drewN | apply below_drew1 | refine below_set ?_ GE280.out | refine below_set ?_ GE281.out | refine below_set ?_ GE282.out | refine below_set ?_ GE299.out) | exact HB.out)⟩
              · rw [if_neg c48] at H
                have c48b0 : (t292 == 0) = false := beq_eq_false_iff_ne.mpr c48
                have c48b1 : (t292 != 0) = true := bne_iff_ne.mpr c48
                exact absurd H (by simp)
  · replace c5 := Bool.eq_false_iff.mpr c5
    subst c5
    have H1 : (none) = some r := by rw [if_neg (show ¬ (false = true) by decide)] at H; exact H
    clear H
    have H := H1
    clear H1
    exact absurd H (by simp)

end Go.Proofs.Ytekaiebfgcjddaa.PGraftFits
