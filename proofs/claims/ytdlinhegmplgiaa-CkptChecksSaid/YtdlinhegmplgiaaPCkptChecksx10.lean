/- A text of the session: functions of the program and their walks, laid by a program of its own (wip/tools/mkprint.py) over the translation. No condition. -/
import Derived.Test.YtdlinhegmplgiaaPCkptChecksx0
import Derived.Test.YtdlinhegmplgiaaPCkptChecksx9
namespace Go.Proofs.Ytdlinhegmplgiaa.PCkptChecks
open Go.RowKit Go.Proofs.YtdlinhegmplgiaaW.PrintWords Go.Proofs.YtdlinhegmplgiaaW.PrintLast Go.Proofs.YtdlinhegmplgiaaW.PrintMore
attribute [local go_sem] max2_int min2_int max_two min_two max_three min_three max_four min_four   -- for this text's walks alone
set_option linter.unusedVariables false
set_option linter.unusedSimpArgs false

/-! ### aviaryref09_Flat: function 20 -/
mutual
def aviaryref09_Flat.l0 : Nat → List Int → Int → Int → Int → Int → Int → Int → Int → Int → Int → List Int → List (S59) → List Int → List Int → Option (List Int)
  | 0, _, _, _, _, _, _, _, _, _, _, _, _, _, _ => none
  | k + 1, x3, x4, x129000, x129001, x129002, x129003, x129004, x129005, x129006, x129007, x129008, x129009, x129010, x129011 => if x4 < (x129009.length : Int) then (if 0 ≤ x4 then (if x3.length + ((rd_T59 x129009 x4).f0).length < 140737488355328 then ((some (x3 ++ ((rd_T59 x129009 x4).f0) : List Int)).bind fun y144 => (if y144.length + ((rd_T59 x129009 x4).f1).length < 140737488355328 then ((some (y144 ++ ((rd_T59 x129009 x4).f1) : List Int)).bind fun y147 => (if y147.length + ((rd_T59 x129009 x4).f2).length < 140737488355328 then ((some (y147 ++ ((rd_T59 x129009 x4).f2) : List Int)).bind fun y150 => (if y150.length + ((rd_T59 x129009 x4).f3).length < 140737488355328 then ((some (y150 ++ ((rd_T59 x129009 x4).f3) : List Int)).bind fun y153 => (if y153.length + ((rd_T59 x129009 x4).f4).length < 140737488355328 then ((some (y153 ++ ((rd_T59 x129009 x4).f4) : List Int)).bind fun y156 => (if y156.length + ((rd_T59 x129009 x4).f5).length < 140737488355328 then ((some (y156 ++ ((rd_T59 x129009 x4).f5) : List Int)).bind fun y159 => (if y159.length + ((rd_T59 x129009 x4).f6).length < 140737488355328 then (aviaryref09_Flat.l1 k (y159 ++ ((rd_T59 x129009 x4).f6)) x4 0 x129000 x129001 x129002 x129003 x129004 x129005 x129006 x129007 x129008 x129009 x129010 x129011 ((rd_T59 x129009 x4).f0) ((rd_T59 x129009 x4).f1) ((rd_T59 x129009 x4).f2) ((rd_T59 x129009 x4).f3) ((rd_T59 x129009 x4).f4) ((rd_T59 x129009 x4).f5) ((rd_T59 x129009 x4).f6) ((rd_T59 x129009 x4).f7) ((rd_T59 x129009 x4).f8)) else (none))) else (none))) else (none))) else (none))) else (none))) else (none))) else (none)) else (none)) else (if x3.length + x129010.length < 140737488355328 then ((some (x3 ++ x129010 : List Int)).bind fun y136 => (if y136.length + x129011.length < 140737488355328 then (some (y136 ++ x129011)) else (none))) else (none))
def aviaryref09_Flat.l1 : Nat → List Int → Int → Int → Int → Int → Int → Int → Int → Int → Int → Int → List Int → List (S59) → List Int → List Int → List Int → List Int → List Int → List Int → List Int → List Int → List Int → List (List Int) → List (List Int) → Option (List Int)
  | 0, _, _, _, _, _, _, _, _, _, _, _, _, _, _, _, _, _, _, _, _, _, _, _, _ => none
  | k + 1, x3, x4, x6, x129000, x129001, x129002, x129003, x129004, x129005, x129006, x129007, x129008, x129009, x129010, x129011, x144000, x144001, x144002, x144003, x144004, x144005, x144006, x144007, x144008 => if x6 < (x144007.length : Int) then (if 0 ≤ x6 then (if x3.length + (rd_L2 x144007 x6).length < 140737488355328 then ((some (x3 ++ (rd_L2 x144007 x6) : List Int)).bind fun y166 => (if x6 < (x144008.length : Int) then (if y166.length + (rd_L2 x144008 x6).length < 140737488355328 then (aviaryref09_Flat.l1 k (y166 ++ (rd_L2 x144008 x6)) x4 (wrap64 (x6 + 1)) x129000 x129001 x129002 x129003 x129004 x129005 x129006 x129007 x129008 x129009 x129010 x129011 x144000 x144001 x144002 x144003 x144004 x144005 x144006 x144007 x144008) else (none)) else (none))) else (none)) else (none)) else (aviaryref09_Flat.l0 k x3 (wrap64 (x4 + 1)) x129000 x129001 x129002 x129003 x129004 x129005 x129006 x129007 x129008 x129009 x129010 x129011)
end
def aviaryref09_Flat.f (k : Nat) (a0_0 : Int) (a0_1 : Int) (a0_2 : Int) (a0_3 : Int) (a0_4 : Int) (a0_5 : Int) (a0_6 : Int) (a0_7 : Int) (l0_8 : List Int) (l0_9 : List (S59)) (l0_10 : List Int) (l0_11 : List Int) : Option (List Int) := (aviaryref09_Check.f k a0_0 a0_1 a0_2 a0_3 a0_4 a0_5 a0_6 a0_7 l0_8 l0_9 l0_10 l0_11).bind fun t129 => (if t129 = 0 then ((some (([] : List Int) : List Int)).bind fun y130 => (if y130.length + l0_8.length < 140737488355328 then (aviaryref09_Flat.l0 k (y130 ++ l0_8) 0 a0_0 a0_1 a0_2 a0_3 a0_4 a0_5 a0_6 a0_7 l0_8 l0_9 l0_10 l0_11) else (none))) else (some ([] : List Int)))
theorem aviaryref09_Flat.mono_l : ∀ k, (∀ y0 y1 y2 y3 y4 y5 y6 y7 y8 y9 y10 y11 y12 y13, LeO (aviaryref09_Flat.l0 k y0 y1 y2 y3 y4 y5 y6 y7 y8 y9 y10 y11 y12 y13) (aviaryref09_Flat.l0 (k + 1) y0 y1 y2 y3 y4 y5 y6 y7 y8 y9 y10 y11 y12 y13)) ∧ (∀ y0 y1 y2 y3 y4 y5 y6 y7 y8 y9 y10 y11 y12 y13 y14 y15 y16 y17 y18 y19 y20 y21 y22 y23, LeO (aviaryref09_Flat.l1 k y0 y1 y2 y3 y4 y5 y6 y7 y8 y9 y10 y11 y12 y13 y14 y15 y16 y17 y18 y19 y20 y21 y22 y23) (aviaryref09_Flat.l1 (k + 1) y0 y1 y2 y3 y4 y5 y6 y7 y8 y9 y10 y11 y12 y13 y14 y15 y16 y17 y18 y19 y20 y21 y22 y23))
  | 0 => ⟨fun _ _ _ _ _ _ _ _ _ _ _ _ _ _ r h => by simp [aviaryref09_Flat.l0] at h, fun _ _ _ _ _ _ _ _ _ _ _ _ _ _ _ _ _ _ _ _ _ _ _ _ r h => by simp [aviaryref09_Flat.l1] at h⟩
  | k + 1 => by
    obtain ⟨ih0, ih1⟩ := aviaryref09_Flat.mono_l k
    refine ⟨?_, ?_⟩
    · intro y0 y1 y2 y3 y4 y5 y6 y7 y8 y9 y10 y11 y12 y13
      unfold aviaryref09_Flat.l0
      repeat' first
      | (with_reducible exact ih0 _ _ _ _ _ _ _ _ _ _ _ _ _ _)
      | (with_reducible exact ih1 _ _ _ _ _ _ _ _ _ _ _ _ _ _ _ _ _ _ _ _ _ _ _ _)
      | (with_reducible exact aviaryref09_Check.mono _ _ _ _ _ _ _ _ _ _ _ _ _)
      | (with_reducible exact LeO.refl _)
      | (with_reducible exact LeO.none _)
      | (with_reducible refine LeO.ite ?_ ?_)
      | (with_reducible refine LeO.bind ?_ (fun _ => ?_))
      | exact ih0 _ _ _ _ _ _ _ _ _ _ _ _ _ _
      | exact ih1 _ _ _ _ _ _ _ _ _ _ _ _ _ _ _ _ _ _ _ _ _ _ _ _
      | exact aviaryref09_Check.mono _ _ _ _ _ _ _ _ _ _ _ _ _
      | exact LeO.none _
      | refine LeO.ite ?_ ?_
      | refine LeO.bind ?_ (fun _ => ?_)
    · intro y0 y1 y2 y3 y4 y5 y6 y7 y8 y9 y10 y11 y12 y13 y14 y15 y16 y17 y18 y19 y20 y21 y22 y23
      unfold aviaryref09_Flat.l1
      repeat' first
      | (with_reducible exact ih0 _ _ _ _ _ _ _ _ _ _ _ _ _ _)
      | (with_reducible exact ih1 _ _ _ _ _ _ _ _ _ _ _ _ _ _ _ _ _ _ _ _ _ _ _ _)
      | (with_reducible exact aviaryref09_Check.mono _ _ _ _ _ _ _ _ _ _ _ _ _)
      | (with_reducible exact LeO.refl _)
      | (with_reducible exact LeO.none _)
      | (with_reducible refine LeO.ite ?_ ?_)
      | (with_reducible refine LeO.bind ?_ (fun _ => ?_))
      | exact ih0 _ _ _ _ _ _ _ _ _ _ _ _ _ _
      | exact ih1 _ _ _ _ _ _ _ _ _ _ _ _ _ _ _ _ _ _ _ _ _ _ _ _
      | exact aviaryref09_Check.mono _ _ _ _ _ _ _ _ _ _ _ _ _
      | exact LeO.none _
      | refine LeO.ite ?_ ?_
      | refine LeO.bind ?_ (fun _ => ?_)
theorem aviaryref09_Flat.mono : ∀ a0 a1 a2 a3 a4 a5 a6 a7 a8 a9 a10 a11 k, LeO (aviaryref09_Flat.f k a0 a1 a2 a3 a4 a5 a6 a7 a8 a9 a10 a11) (aviaryref09_Flat.f (k + 1) a0 a1 a2 a3 a4 a5 a6 a7 a8 a9 a10 a11) := by
  intro a0 a1 a2 a3 a4 a5 a6 a7 a8 a9 a10 a11 k
  obtain ⟨ih0, ih1⟩ := aviaryref09_Flat.mono_l k
  unfold aviaryref09_Flat.f
  repeat' first
      | (with_reducible exact ih0 _ _ _ _ _ _ _ _ _ _ _ _ _ _)
      | (with_reducible exact ih1 _ _ _ _ _ _ _ _ _ _ _ _ _ _ _ _ _ _ _ _ _ _ _ _)
      | (with_reducible exact aviaryref09_Check.mono _ _ _ _ _ _ _ _ _ _ _ _ _)
      | (with_reducible exact LeO.refl _)
      | (with_reducible exact LeO.none _)
      | (with_reducible refine LeO.ite ?_ ?_)
      | (with_reducible refine LeO.bind ?_ (fun _ => ?_))
      | exact ih0 _ _ _ _ _ _ _ _ _ _ _ _ _ _
      | exact ih1 _ _ _ _ _ _ _ _ _ _ _ _ _ _ _ _ _ _ _ _ _ _ _ _
      | exact aviaryref09_Check.mono _ _ _ _ _ _ _ _ _ _ _ _ _
      | exact LeO.none _
      | refine LeO.ite ?_ ?_
      | refine LeO.bind ?_ (fun _ => ?_)
set_option maxHeartbeats 8000000 in
set_option maxRecDepth 100000 in
theorem aviaryref09_Flat.calls (k : Nat) (a0_0 : Int) (a0_1 : Int) (a0_2 : Int) (a0_3 : Int) (a0_4 : Int) (a0_5 : Int) (a0_6 : Int) (a0_7 : Int) (A0_8 : Option Addr) (c0_8 : Nat) (l0_8 : List Int) (A0_9 : Option Addr) (c0_9 : Nat) (l0_9 : List (S59)) (A0_10 : Option Addr) (c0_10 : Nat) (l0_10 : List Int) (A0_11 : Option Addr) (c0_11 : Nat) (l0_11 : List Int) (r : List Int) (w : World) (hr0_8 : Kd.C (Kd.int .i8) w A0_8 l0_8.length l0_8) (hc0_8 : l0_8.length ≤ c0_8) (hr0_9 : Kd.C k59 w A0_9 l0_9.length l0_9) (hc0_9 : l0_9.length ≤ c0_9) (hr0_10 : Kd.C (Kd.int .i8) w A0_10 l0_10.length l0_10) (hc0_10 : l0_10.length ≤ c0_10) (hr0_11 : Kd.C (Kd.int .i8) w A0_11 l0_11.length l0_11) (hc0_11 : l0_11.length ≤ c0_11) (h : aviaryref09_Flat.f k a0_0 a0_1 a0_2 a0_3 a0_4 a0_5 a0_6 a0_7 l0_8 l0_9 l0_10 l0_11 = some r) :
    Calls Try.prog 20 #[.agg #[.int .i64 a0_0, .int .i64 a0_1, .int .i64 a0_2, .int .i64 a0_3, .int .i64 a0_4, .int .i64 a0_5, .int .i64 a0_6, .int .i64 a0_7, .slice A0_8 l0_8.length c0_8, .slice A0_9 l0_9.length c0_9, .slice A0_10 l0_10.length c0_10, .slice A0_11 l0_11.length c0_11]] w fun e w' => ∃ v0_ : Value, e = .returned (v0_) ∧ Kd.R (Kd.int .i8) 46 w' w.heap.size (fun _ => True) v0_ r ∧ Below w.heap.size w w' := by
  have hu29 := Try.underlying29
  have hu59 := Try.underlying59
  have HR0_8 := Aside0.mk hr0_8
  have HC0_8 := Aside0.mk hc0_8
  clear hr0_8 hc0_8
  have HR0_9 := Aside0.mk hr0_9
  have HC0_9 := Aside0.mk hc0_9
  clear hr0_9 hc0_9
  have HR0_10 := Aside0.mk hr0_10
  have HC0_10 := Aside0.mk hc0_10
  clear hr0_10 hc0_10
  have HR0_11 := Aside0.mk hr0_11
  have HC0_11 := Aside0.mk hc0_11
  clear hr0_11 hc0_11
  have HB := Aside0.mk (Below.refl w.heap.size w)
  have H : ((aviaryref09_Check.f k a0_0 a0_1 a0_2 a0_3 a0_4 a0_5 a0_6 a0_7 l0_8 l0_9 l0_10 l0_11).bind fun t129 => (if t129 = 0 then ((some (([] : List Int) : List Int)).bind fun y130 => (if y130.length + l0_8.length < 140737488355328 then (aviaryref09_Flat.l0 k (y130 ++ l0_8) 0 a0_0 a0_1 a0_2 a0_3 a0_4 a0_5 a0_6 a0_7 l0_8 l0_9 l0_10 l0_11) else (none))) else (some ([] : List Int)))) = some r := h
  clear h
  replace H := Option.bind_eq_some_iff.mp H
  obtain ⟨t129, A20, H⟩ := H
  replace H : (if t129 = 0 then ((some (([] : List Int) : List Int)).bind fun y130 => (if y130.length + l0_8.length < 140737488355328 then (aviaryref09_Flat.l0 k (y130 ++ l0_8) 0 a0_0 a0_1 a0_2 a0_3 a0_4 a0_5 a0_6 a0_7 l0_8 l0_9 l0_10 l0_11) else (none))) else (some ([] : List Int))) = some r := H
  have A2 := Aside0.mk A20
  clear A20
  by_cases c3 : t129 = 0
  · rw [if_pos c3] at H
    have c3b0 : (t129 == 0) = true := beq_iff_eq.mpr c3
    have c3b1 : (t129 != 0) = false := bne_eq_false_iff_eq.mpr c3
    clear c3
    obtain ⟨y130, hy130⟩ : ∃ y_ : List Int, y_ = (([] : List Int)) := ⟨_, rfl⟩
    replace H : (if y130.length + l0_8.length < 140737488355328 then (aviaryref09_Flat.l0 k (y130 ++ l0_8) 0 a0_0 a0_1 a0_2 a0_3 a0_4 a0_5 a0_6 a0_7 l0_8 l0_9 l0_10 l0_11) else (none)) = some r := by first | (rw [hy130]; with_reducible exact H) | (have H2_ := (Option.bind_some _ _).symm.trans H; rw [hy130]; with_reducible exact H2_) | (have H2_ := (Option.bind_some _ _).symm.trans H; with_reducible exact H2_) | with_reducible exact H | (rw [hy130]; exact H) | exact H
    have Ny130 := Aside0.mk hy130
    clear hy130
    by_cases c4 : y130.length + l0_8.length < 140737488355328
    · rw [if_pos c4] at H
      have LMc4 := Aside0.mk c4
      clear c4
      obtain ⟨y133, hy133⟩ : ∃ y_ : List Int, y_ = (y130 ++ l0_8) := ⟨_, rfl⟩
      replace H : (aviaryref09_Flat.l0 k y133 0 a0_0 a0_1 a0_2 a0_3 a0_4 a0_5 a0_6 a0_7 l0_8 l0_9 l0_10 l0_11) = some r := by first | (rw [hy133]; with_reducible exact H) | (have H2_ := (Option.bind_some _ _).symm.trans H; rw [hy133]; with_reducible exact H2_) | (have H2_ := (Option.bind_some _ _).symm.trans H; with_reducible exact H2_) | with_reducible exact H | (rw [hy133]; exact H) | exact H
      have Ny133 := Aside0.mk hy133
      clear hy133
      have H' := Aside0.mk H
      clear H
      go_enter Try.func20, Try.ntmps20
      go_wp2_with (first | ((with_reducible refine gate_dst (N := 1) rfl ?_); refine box_event ?hg (N := 1) ?hd (cs := #[.int .i64 a0_0, .int .i64 a0_1, .int .i64 a0_2, .int .i64 a0_3, .int .i64 a0_4, .int .i64 a0_5, .int .i64 a0_6, .int .i64 a0_7, .slice A0_8 l0_8.length c0_8, .slice A0_9 l0_9.length c0_9, .slice A0_10 l0_10.length c0_10, .slice A0_11 l0_11.length c0_11]) (t := 29) ?hr ?_; (case hd => rfl); (case hg => rfl); (case hr => first | (go_simp; done) | (go_simp; rfl)); intro gb128 hg w5 hbox hb; have n0_ := Aside0.mk (below_step by_ hb); have n1_ := Aside0.mk (hbox); have n2_ := Aside0.mk ((by rw [hg]; exact (below_size by_) : w.heap.size ≤ gb128)); have n3_ := Aside0.mk ((by rw [hg]; exact (below_size by_) : w.heap.size ≤ gb128)); clear HB; have HB := n0_; have BK128 := n1_; have GW128 := n2_; have GE128 := n3_; clear n0_ n1_ n2_ n3_; clear hb hbox hg; have hcz6_0 : w5.cell? ⟨gb128, 0, none⟩ = some (.int .i64 a0_0) := (blk_cell BK128.out 0).trans rfl; have hcz6_1 : w5.cell? ⟨gb128, 1, none⟩ = some (.int .i64 a0_1) := (blk_cell BK128.out 1).trans rfl; have hcz6_2 : w5.cell? ⟨gb128, 2, none⟩ = some (.int .i64 a0_2) := (blk_cell BK128.out 2).trans rfl; have hcz6_3 : w5.cell? ⟨gb128, 3, none⟩ = some (.int .i64 a0_3) := (blk_cell BK128.out 3).trans rfl; have hcz6_4 : w5.cell? ⟨gb128, 4, none⟩ = some (.int .i64 a0_4) := (blk_cell BK128.out 4).trans rfl; have hcz6_5 : w5.cell? ⟨gb128, 5, none⟩ = some (.int .i64 a0_5) := (blk_cell BK128.out 5).trans rfl; have hcz6_6 : w5.cell? ⟨gb128, 6, none⟩ = some (.int .i64 a0_6) := (blk_cell BK128.out 6).trans rfl; have hcz6_7 : w5.cell? ⟨gb128, 7, none⟩ = some (.int .i64 a0_7) := (blk_cell BK128.out 7).trans rfl; have hcz6_8 : w5.cell? ⟨gb128, 8, none⟩ = some (.slice A0_8 l0_8.length c0_8) := (blk_cell BK128.out 8).trans rfl; have hcz6_9 : w5.cell? ⟨gb128, 9, none⟩ = some (.slice A0_9 l0_9.length c0_9) := (blk_cell BK128.out 9).trans rfl; have hcz6_10 : w5.cell? ⟨gb128, 10, none⟩ = some (.slice A0_10 l0_10.length c0_10) := (blk_cell BK128.out 10).trans rfl; have hcz6_11 : w5.cell? ⟨gb128, 11, none⟩ = some (.slice A0_11 l0_11.length c0_11) := (blk_cell BK128.out 11).trans rfl; have hfz6_0 := blk_frozen BK128.out 0; have hfz6_1 := blk_frozen BK128.out 1; have hfz6_2 := blk_frozen BK128.out 2; have hfz6_3 := blk_frozen BK128.out 3; have hfz6_4 := blk_frozen BK128.out 4; have hfz6_5 := blk_frozen BK128.out 5; have hfz6_6 := blk_frozen BK128.out 6; have hfz6_7 := blk_frozen BK128.out 7; have hfz6_8 := blk_frozen BK128.out 8; have hfz6_9 := blk_frozen BK128.out 9; have hfz6_10 := blk_frozen BK128.out 10; have hfz6_11 := blk_frozen BK128.out 11) | ((with_reducible refine gate_callee (f := 17) rfl ?_); refine goesL_ (some 8) rfl rfl Try.func17 (by kernel_rfl) rfl #[.agg #[.int .i64 a0_0, .int .i64 a0_1, .int .i64 a0_2, .int .i64 a0_3, .int .i64 a0_4, .int .i64 a0_5, .int .i64 a0_6, .int .i64 a0_7, .slice A0_8 l0_8.length c0_8, .slice A0_9 l0_9.length c0_9, .slice A0_10 l0_10.length c0_10, .slice A0_11 l0_11.length c0_11]] rfl ar_ ?_; (with_reducible refine (aviaryref09_Check.calls k a0_0 a0_1 a0_2 a0_3 a0_4 a0_5 a0_6 a0_7 _ _ l0_8 _ _ l0_9 _ _ l0_10 _ _ l0_11 t129 _ ?side1 ?side2 ?side3 ?side4 ?side5 ?side6 ?side7 ?side8 A2.out).mono ?_); (case side1 => repeat (first | exact (Kd.C_below HR0_8.out HB.out) | (with_reducible refine Kd.C_alloc ?_ _) | (with_reducible refine Kd.C_drewN ?_ _) | (with_reducible refine Kd.C_drew ?_))); (case side2 => exact HC0_8.out); (case side3 => repeat (first | exact (Kd.C_below HR0_9.out HB.out) | (with_reducible refine Kd.C_alloc ?_ _) | (with_reducible refine Kd.C_drewN ?_ _) | (with_reducible refine Kd.C_drew ?_))); (case side4 => exact HC0_9.out); (case side5 => repeat (first | exact (Kd.C_below HR0_10.out HB.out) | (with_reducible refine Kd.C_alloc ?_ _) | (with_reducible refine Kd.C_drewN ?_ _) | (with_reducible refine Kd.C_drew ?_))); (case side6 => exact HC0_10.out); (case side7 => repeat (first | exact (Kd.C_below HR0_11.out HB.out) | (with_reducible refine Kd.C_alloc ?_ _) | (with_reducible refine Kd.C_drewN ?_ _) | (with_reducible refine Kd.C_drew ?_))); (case side8 => exact HC0_11.out); rintro e w7 ⟨rfl, hb⟩; refine ⟨_, rfl, ?_⟩; have n0_ := Aside0.mk (blk_below (bkl_ BK128.out) hb); have n1_ := Aside0.mk (below_step by_ hb); clear BK128; clear HB; have BK128 := n0_; have HB := n1_; clear n0_ n1_; (try clear hb); (try clear hb2); (try clear hk); (try clear hi)) | ((with_reducible refine gate_dst (N := 10) rfl ?_); refine Kd.R_lit (Kd.int .i8) _ 46 ?hg (N := 10) ?hd (xs := ([] : List Int)) (inner := []) (ok := fun _ => True) (okp := fun _ => True) ?hr ?hp (fun _ hk => hk) trivial (Below.refl _ _) (Nat.le_refl _) (by simp) ?_; (case hd => rfl); (case hg => rfl); (case hr => first | (go_simp; done) | (go_simp; rfl)); (case hp => exact (Reps.none _ _)); intro v131 w8 ho9 hb hg_ hnew_; clear hg_ hnew_; (first | rw [← Ny130.out] at ho9 | (simp only [Int.reduceToNat] at ho9; rw [← Ny130.out] at ho9)); have n0_ := Aside0.mk (Kd.R_lower ho9 (below_size by_)); have n1_ := Aside0.mk (blk_below (bkl_ BK128.out) hb); have n2_ := Aside0.mk (below_step by_ hb); clear BK128; clear HB; have HO132 := n0_; have BK128 := n1_; have HB := n2_; clear n0_ n1_ n2_; clear hb ho9; have hcz10_0 : w8.cell? ⟨gb128, 0, none⟩ = some (.int .i64 a0_0) := (blk_cell BK128.out 0).trans rfl; have hcz10_1 : w8.cell? ⟨gb128, 1, none⟩ = some (.int .i64 a0_1) := (blk_cell BK128.out 1).trans rfl; have hcz10_2 : w8.cell? ⟨gb128, 2, none⟩ = some (.int .i64 a0_2) := (blk_cell BK128.out 2).trans rfl; have hcz10_3 : w8.cell? ⟨gb128, 3, none⟩ = some (.int .i64 a0_3) := (blk_cell BK128.out 3).trans rfl; have hcz10_4 : w8.cell? ⟨gb128, 4, none⟩ = some (.int .i64 a0_4) := (blk_cell BK128.out 4).trans rfl; have hcz10_5 : w8.cell? ⟨gb128, 5, none⟩ = some (.int .i64 a0_5) := (blk_cell BK128.out 5).trans rfl; have hcz10_6 : w8.cell? ⟨gb128, 6, none⟩ = some (.int .i64 a0_6) := (blk_cell BK128.out 6).trans rfl; have hcz10_7 : w8.cell? ⟨gb128, 7, none⟩ = some (.int .i64 a0_7) := (blk_cell BK128.out 7).trans rfl; have hcz10_8 : w8.cell? ⟨gb128, 8, none⟩ = some (.slice A0_8 l0_8.length c0_8) := (blk_cell BK128.out 8).trans rfl; have hcz10_9 : w8.cell? ⟨gb128, 9, none⟩ = some (.slice A0_9 l0_9.length c0_9) := (blk_cell BK128.out 9).trans rfl; have hcz10_10 : w8.cell? ⟨gb128, 10, none⟩ = some (.slice A0_10 l0_10.length c0_10) := (blk_cell BK128.out 10).trans rfl; have hcz10_11 : w8.cell? ⟨gb128, 11, none⟩ = some (.slice A0_11 l0_11.length c0_11) := (blk_cell BK128.out 11).trans rfl; have hfz10_0 := blk_frozen BK128.out 0; have hfz10_1 := blk_frozen BK128.out 1; have hfz10_2 := blk_frozen BK128.out 2; have hfz10_3 := blk_frozen BK128.out 3; have hfz10_4 := blk_frozen BK128.out 4; have hfz10_5 := blk_frozen BK128.out 5; have hfz10_6 := blk_frozen BK128.out 6; have hfz10_7 := blk_frozen BK128.out 7; have hfz10_8 := blk_frozen BK128.out 8; have hfz10_9 := blk_frozen BK128.out 9; have hfz10_10 := blk_frozen BK128.out 10; have hfz10_11 := blk_frozen BK128.out 11) | ((with_reducible refine gate_builtin (b := .append) (xs := #[.tmp 10, .tmp 12]) rfl ?_); at_builtin; refine Kd.R_append_rows (Kd.int .i8) (w0 := w) w.heap.size rfl (.tmp 10) (.tmp 12) 26 46 (.int .i8 0) 1 rfl Try.underlying26 info46 rfl (by decide) (by omega) v131 y130 l0_8 _ _ _ (fun _ => True) (fun _ => False) rfl rfl ?aO ?aR (fun _ _ h => h) (fun _ h => h.elim) ?aF ?aB ?aS ?aL ?_; (case aR => repeat (first | exact (Kd.C_below HR0_8.out HB.out) | (with_reducible refine Kd.C_alloc ?_ _) | (with_reducible refine Kd.C_drewN ?_ _) | (with_reducible refine Kd.C_drew ?_))); (case aB => exact by_); (case aF => exact (fun _ _ => trivial)); (case aO => exact (by (with_reducible repeat (first | apply Kd.R_alloc | apply Kd.R_drewN | apply Kd.R_drew)); exact HO132.out)); (case aS => exact (below_size by_)); (case aL => have := LMc4.out; omega); intro v134 w11 ho hb hg hat; rw [← Ny133.out] at ho; have n0_ := Aside0.mk (blk_grown (g := gb128) (o := .cells #[.int .i64 a0_0, .int .i64 a0_1, .int .i64 a0_2, .int .i64 a0_3, .int .i64 a0_4, .int .i64 a0_5, .int .i64 a0_6, .int .i64 a0_7, .slice A0_8 l0_8.length c0_8, .slice A0_9 l0_9.length c0_9, .slice A0_10 l0_10.length c0_10, .slice A0_11 l0_11.length c0_11] 29 (0, 0)) (bkl_ BK128.out) hg (Kd.R_ne HO132.out BK128.out (by decide))); have n1_ := Aside0.mk (hb); have n2_ := Aside0.mk (ho); clear BK128; clear HB; clear HO132; have BK128 := n0_; have HB := n1_; have HO135 := n2_; clear n0_ n1_ n2_; clear ho hb hg hat))
      go_loopg [3, 4] k (fun kq v3 v4 w' => ∃ (x3_1 : List Int) (x4_1 : Int), v4 = .int .i64 x4_1 ∧ Aside0 (aviaryref09_Flat.l0 kq x3_1 x4_1 a0_0 a0_1 a0_2 a0_3 a0_4 a0_5 a0_6 a0_7 l0_8 l0_9 l0_10 l0_11 = some r) ∧ Aside0 (kq ≤ k) ∧ Aside0 (Kd.R (Kd.int .i8) 46 w' w.heap.size (fun _ => True) v3 x3_1) ∧ Aside0 (w'.heap[gb128]? = some (.cells #[.int .i64 a0_0, .int .i64 a0_1, .int .i64 a0_2, .int .i64 a0_3, .int .i64 a0_4, .int .i64 a0_5, .int .i64 a0_6, .int .i64 a0_7, (.slice A0_8 l0_8.length c0_8), (.slice A0_9 l0_9.length c0_9), (.slice A0_10 l0_10.length c0_10), (.slice A0_11 l0_11.length c0_11)] 29 (0, 0))) ∧ Aside0 (Below w.heap.size w w'))
      case atStart => exact ⟨(y133), (0), (by first | rfl | (simp; done) | (simp [*]; done)), H', ⟨Nat.le_refl _⟩, ⟨by (with_reducible repeat (first | apply Kd.R_alloc | apply Kd.R_drewN | apply Kd.R_drew)); exact HO135.out⟩, ⟨by (with_reducible repeat (first | refine blk_drewN ?_ _ | refine blk_drew ?_ | refine blk_alloc ?_ _)); exact BK128.out⟩, ⟨by repeat (first | (with_reducible first | exact HB.out | apply below_alloc | apply pw_below_drewN | apply below_drew1 | refine below_set ?_ GE128.out) | exact HB.out)⟩⟩
      case round =>
        clear H'
        try clear c1
        try clear c2
        try clear p2
        try clear c3
        try clear c3b0
        try clear c3b1
        try clear c4
        try clear hcz10_0
        try clear hcz10_1
        try clear hcz10_10
        try clear hcz10_11
        try clear hcz10_2
        try clear hcz10_3
        try clear hcz10_4
        try clear hcz10_5
        try clear hcz10_6
        try clear hcz10_7
        try clear hcz10_8
        try clear hcz10_9
        try clear hcz6_0
        try clear hcz6_1
        try clear hcz6_10
        try clear hcz6_11
        try clear hcz6_2
        try clear hcz6_3
        try clear hcz6_4
        try clear hcz6_5
        try clear hcz6_6
        try clear hcz6_7
        try clear hcz6_8
        try clear hcz6_9
        try clear hfz10_0
        try clear hfz10_1
        try clear hfz10_10
        try clear hfz10_11
        try clear hfz10_2
        try clear hfz10_3
        try clear hfz10_4
        try clear hfz10_5
        try clear hfz10_6
        try clear hfz10_7
        try clear hfz10_8
        try clear hfz10_9
        try clear hfz6_0
        try clear hfz6_1
        try clear hfz6_10
        try clear hfz6_11
        try clear hfz6_2
        try clear hfz6_3
        try clear hfz6_4
        try clear hfz6_5
        try clear hfz6_6
        try clear hfz6_7
        try clear hfz6_8
        try clear hfz6_9
        obtain ⟨x3_1, x4_1, rfl, HA, HK1, HO_3, BK128, HB⟩ := hrel
        cases gk with
        | zero => exact absurd HA.out (by simp [aviaryref09_Flat.l0])
        | succ k1 =>
          have H := HA.out
          clear HA
          simp only [aviaryref09_Flat.l0] at H
          by_cases c12 : x4_1 < (l0_9.length : Int)
          · rw [if_pos c12] at H
            have c12b0 : decide (x4_1 < (l0_9.length : Int)) = true := decide_eq_true c12
            clear c12
            by_cases c13 : 0 ≤ x4_1
            · rw [if_pos c13] at H
              have c13b0 : decide (0 ≤ x4_1) = true := decide_eq_true c13
              clear c13
              by_cases c14 : x3_1.length + ((rd_T59 l0_9 x4_1).f0).length < 140737488355328
              · rw [if_pos c14] at H
                have LMc14 := Aside0.mk c14
                clear c14
                obtain ⟨y144, hy144⟩ : ∃ y_ : List Int, y_ = (x3_1 ++ ((rd_T59 l0_9 x4_1).f0)) := ⟨_, rfl⟩
                replace H : (if y144.length + ((rd_T59 l0_9 x4_1).f1).length < 140737488355328 then ((some (y144 ++ ((rd_T59 l0_9 x4_1).f1) : List Int)).bind fun y147 => (if y147.length + ((rd_T59 l0_9 x4_1).f2).length < 140737488355328 then ((some (y147 ++ ((rd_T59 l0_9 x4_1).f2) : List Int)).bind fun y150 => (if y150.length + ((rd_T59 l0_9 x4_1).f3).length < 140737488355328 then ((some (y150 ++ ((rd_T59 l0_9 x4_1).f3) : List Int)).bind fun y153 => (if y153.length + ((rd_T59 l0_9 x4_1).f4).length < 140737488355328 then ((some (y153 ++ ((rd_T59 l0_9 x4_1).f4) : List Int)).bind fun y156 => (if y156.length + ((rd_T59 l0_9 x4_1).f5).length < 140737488355328 then ((some (y156 ++ ((rd_T59 l0_9 x4_1).f5) : List Int)).bind fun y159 => (if y159.length + ((rd_T59 l0_9 x4_1).f6).length < 140737488355328 then (aviaryref09_Flat.l1 k1 (y159 ++ ((rd_T59 l0_9 x4_1).f6)) x4_1 0 a0_0 a0_1 a0_2 a0_3 a0_4 a0_5 a0_6 a0_7 l0_8 l0_9 l0_10 l0_11 ((rd_T59 l0_9 x4_1).f0) ((rd_T59 l0_9 x4_1).f1) ((rd_T59 l0_9 x4_1).f2) ((rd_T59 l0_9 x4_1).f3) ((rd_T59 l0_9 x4_1).f4) ((rd_T59 l0_9 x4_1).f5) ((rd_T59 l0_9 x4_1).f6) ((rd_T59 l0_9 x4_1).f7) ((rd_T59 l0_9 x4_1).f8)) else (none))) else (none))) else (none))) else (none))) else (none))) else (none)) = some r := by first | (rw [hy144]; with_reducible exact H) | (have H2_ := (Option.bind_some _ _).symm.trans H; rw [hy144]; with_reducible exact H2_) | (have H2_ := (Option.bind_some _ _).symm.trans H; with_reducible exact H2_) | with_reducible exact H | (rw [hy144]; exact H) | exact H
                have Ny144 := Aside0.mk hy144
                clear hy144
                by_cases c15 : y144.length + ((rd_T59 l0_9 x4_1).f1).length < 140737488355328
                · rw [if_pos c15] at H
                  have LMc15 := Aside0.mk c15
                  clear c15
                  obtain ⟨y147, hy147⟩ : ∃ y_ : List Int, y_ = (y144 ++ ((rd_T59 l0_9 x4_1).f1)) := ⟨_, rfl⟩
                  replace H : (if y147.length + ((rd_T59 l0_9 x4_1).f2).length < 140737488355328 then ((some (y147 ++ ((rd_T59 l0_9 x4_1).f2) : List Int)).bind fun y150 => (if y150.length + ((rd_T59 l0_9 x4_1).f3).length < 140737488355328 then ((some (y150 ++ ((rd_T59 l0_9 x4_1).f3) : List Int)).bind fun y153 => (if y153.length + ((rd_T59 l0_9 x4_1).f4).length < 140737488355328 then ((some (y153 ++ ((rd_T59 l0_9 x4_1).f4) : List Int)).bind fun y156 => (if y156.length + ((rd_T59 l0_9 x4_1).f5).length < 140737488355328 then ((some (y156 ++ ((rd_T59 l0_9 x4_1).f5) : List Int)).bind fun y159 => (if y159.length + ((rd_T59 l0_9 x4_1).f6).length < 140737488355328 then (aviaryref09_Flat.l1 k1 (y159 ++ ((rd_T59 l0_9 x4_1).f6)) x4_1 0 a0_0 a0_1 a0_2 a0_3 a0_4 a0_5 a0_6 a0_7 l0_8 l0_9 l0_10 l0_11 ((rd_T59 l0_9 x4_1).f0) ((rd_T59 l0_9 x4_1).f1) ((rd_T59 l0_9 x4_1).f2) ((rd_T59 l0_9 x4_1).f3) ((rd_T59 l0_9 x4_1).f4) ((rd_T59 l0_9 x4_1).f5) ((rd_T59 l0_9 x4_1).f6) ((rd_T59 l0_9 x4_1).f7) ((rd_T59 l0_9 x4_1).f8)) else (none))) else (none))) else (none))) else (none))) else (none)) = some r := by first | (rw [hy147]; with_reducible exact H) | (have H2_ := (Option.bind_some _ _).symm.trans H; rw [hy147]; with_reducible exact H2_) | (have H2_ := (Option.bind_some _ _).symm.trans H; with_reducible exact H2_) | with_reducible exact H | (rw [hy147]; exact H) | exact H
                  have Ny147 := Aside0.mk hy147
                  clear hy147
                  by_cases c16 : y147.length + ((rd_T59 l0_9 x4_1).f2).length < 140737488355328
                  · rw [if_pos c16] at H
                    have LMc16 := Aside0.mk c16
                    clear c16
                    obtain ⟨y150, hy150⟩ : ∃ y_ : List Int, y_ = (y147 ++ ((rd_T59 l0_9 x4_1).f2)) := ⟨_, rfl⟩
                    replace H : (if y150.length + ((rd_T59 l0_9 x4_1).f3).length < 140737488355328 then ((some (y150 ++ ((rd_T59 l0_9 x4_1).f3) : List Int)).bind fun y153 => (if y153.length + ((rd_T59 l0_9 x4_1).f4).length < 140737488355328 then ((some (y153 ++ ((rd_T59 l0_9 x4_1).f4) : List Int)).bind fun y156 => (if y156.length + ((rd_T59 l0_9 x4_1).f5).length < 140737488355328 then ((some (y156 ++ ((rd_T59 l0_9 x4_1).f5) : List Int)).bind fun y159 => (if y159.length + ((rd_T59 l0_9 x4_1).f6).length < 140737488355328 then (aviaryref09_Flat.l1 k1 (y159 ++ ((rd_T59 l0_9 x4_1).f6)) x4_1 0 a0_0 a0_1 a0_2 a0_3 a0_4 a0_5 a0_6 a0_7 l0_8 l0_9 l0_10 l0_11 ((rd_T59 l0_9 x4_1).f0) ((rd_T59 l0_9 x4_1).f1) ((rd_T59 l0_9 x4_1).f2) ((rd_T59 l0_9 x4_1).f3) ((rd_T59 l0_9 x4_1).f4) ((rd_T59 l0_9 x4_1).f5) ((rd_T59 l0_9 x4_1).f6) ((rd_T59 l0_9 x4_1).f7) ((rd_T59 l0_9 x4_1).f8)) else (none))) else (none))) else (none))) else (none)) = some r := by first | (rw [hy150]; with_reducible exact H) | (have H2_ := (Option.bind_some _ _).symm.trans H; rw [hy150]; with_reducible exact H2_) | (have H2_ := (Option.bind_some _ _).symm.trans H; with_reducible exact H2_) | with_reducible exact H | (rw [hy150]; exact H) | exact H
                    have Ny150 := Aside0.mk hy150
                    clear hy150
                    by_cases c17 : y150.length + ((rd_T59 l0_9 x4_1).f3).length < 140737488355328
                    · rw [if_pos c17] at H
                      have LMc17 := Aside0.mk c17
                      clear c17
                      obtain ⟨y153, hy153⟩ : ∃ y_ : List Int, y_ = (y150 ++ ((rd_T59 l0_9 x4_1).f3)) := ⟨_, rfl⟩
                      replace H : (if y153.length + ((rd_T59 l0_9 x4_1).f4).length < 140737488355328 then ((some (y153 ++ ((rd_T59 l0_9 x4_1).f4) : List Int)).bind fun y156 => (if y156.length + ((rd_T59 l0_9 x4_1).f5).length < 140737488355328 then ((some (y156 ++ ((rd_T59 l0_9 x4_1).f5) : List Int)).bind fun y159 => (if y159.length + ((rd_T59 l0_9 x4_1).f6).length < 140737488355328 then (aviaryref09_Flat.l1 k1 (y159 ++ ((rd_T59 l0_9 x4_1).f6)) x4_1 0 a0_0 a0_1 a0_2 a0_3 a0_4 a0_5 a0_6 a0_7 l0_8 l0_9 l0_10 l0_11 ((rd_T59 l0_9 x4_1).f0) ((rd_T59 l0_9 x4_1).f1) ((rd_T59 l0_9 x4_1).f2) ((rd_T59 l0_9 x4_1).f3) ((rd_T59 l0_9 x4_1).f4) ((rd_T59 l0_9 x4_1).f5) ((rd_T59 l0_9 x4_1).f6) ((rd_T59 l0_9 x4_1).f7) ((rd_T59 l0_9 x4_1).f8)) else (none))) else (none))) else (none)) = some r := by first | (rw [hy153]; with_reducible exact H) | (have H2_ := (Option.bind_some _ _).symm.trans H; rw [hy153]; with_reducible exact H2_) | (have H2_ := (Option.bind_some _ _).symm.trans H; with_reducible exact H2_) | with_reducible exact H | (rw [hy153]; exact H) | exact H
                      have Ny153 := Aside0.mk hy153
                      clear hy153
                      by_cases c18 : y153.length + ((rd_T59 l0_9 x4_1).f4).length < 140737488355328
                      · rw [if_pos c18] at H
                        have LMc18 := Aside0.mk c18
                        clear c18
                        obtain ⟨y156, hy156⟩ : ∃ y_ : List Int, y_ = (y153 ++ ((rd_T59 l0_9 x4_1).f4)) := ⟨_, rfl⟩
                        replace H : (if y156.length + ((rd_T59 l0_9 x4_1).f5).length < 140737488355328 then ((some (y156 ++ ((rd_T59 l0_9 x4_1).f5) : List Int)).bind fun y159 => (if y159.length + ((rd_T59 l0_9 x4_1).f6).length < 140737488355328 then (aviaryref09_Flat.l1 k1 (y159 ++ ((rd_T59 l0_9 x4_1).f6)) x4_1 0 a0_0 a0_1 a0_2 a0_3 a0_4 a0_5 a0_6 a0_7 l0_8 l0_9 l0_10 l0_11 ((rd_T59 l0_9 x4_1).f0) ((rd_T59 l0_9 x4_1).f1) ((rd_T59 l0_9 x4_1).f2) ((rd_T59 l0_9 x4_1).f3) ((rd_T59 l0_9 x4_1).f4) ((rd_T59 l0_9 x4_1).f5) ((rd_T59 l0_9 x4_1).f6) ((rd_T59 l0_9 x4_1).f7) ((rd_T59 l0_9 x4_1).f8)) else (none))) else (none)) = some r := by first | (rw [hy156]; with_reducible exact H) | (have H2_ := (Option.bind_some _ _).symm.trans H; rw [hy156]; with_reducible exact H2_) | (have H2_ := (Option.bind_some _ _).symm.trans H; with_reducible exact H2_) | with_reducible exact H | (rw [hy156]; exact H) | exact H
                        have Ny156 := Aside0.mk hy156
                        clear hy156
                        by_cases c19 : y156.length + ((rd_T59 l0_9 x4_1).f5).length < 140737488355328
                        · rw [if_pos c19] at H
                          have LMc19 := Aside0.mk c19
                          clear c19
                          obtain ⟨y159, hy159⟩ : ∃ y_ : List Int, y_ = (y156 ++ ((rd_T59 l0_9 x4_1).f5)) := ⟨_, rfl⟩
                          replace H : (if y159.length + ((rd_T59 l0_9 x4_1).f6).length < 140737488355328 then (aviaryref09_Flat.l1 k1 (y159 ++ ((rd_T59 l0_9 x4_1).f6)) x4_1 0 a0_0 a0_1 a0_2 a0_3 a0_4 a0_5 a0_6 a0_7 l0_8 l0_9 l0_10 l0_11 ((rd_T59 l0_9 x4_1).f0) ((rd_T59 l0_9 x4_1).f1) ((rd_T59 l0_9 x4_1).f2) ((rd_T59 l0_9 x4_1).f3) ((rd_T59 l0_9 x4_1).f4) ((rd_T59 l0_9 x4_1).f5) ((rd_T59 l0_9 x4_1).f6) ((rd_T59 l0_9 x4_1).f7) ((rd_T59 l0_9 x4_1).f8)) else (none)) = some r := by first | (rw [hy159]; with_reducible exact H) | (have H2_ := (Option.bind_some _ _).symm.trans H; rw [hy159]; with_reducible exact H2_) | (have H2_ := (Option.bind_some _ _).symm.trans H; with_reducible exact H2_) | with_reducible exact H | (rw [hy159]; exact H) | exact H
                          have Ny159 := Aside0.mk hy159
                          clear hy159
                          by_cases c20 : y159.length + ((rd_T59 l0_9 x4_1).f6).length < 140737488355328
                          · rw [if_pos c20] at H
                            have LMc20 := Aside0.mk c20
                            clear c20
                            obtain ⟨y162, hy162⟩ : ∃ y_ : List Int, y_ = (y159 ++ ((rd_T59 l0_9 x4_1).f6)) := ⟨_, rfl⟩
                            replace H : (aviaryref09_Flat.l1 k1 y162 x4_1 0 a0_0 a0_1 a0_2 a0_3 a0_4 a0_5 a0_6 a0_7 l0_8 l0_9 l0_10 l0_11 ((rd_T59 l0_9 x4_1).f0) ((rd_T59 l0_9 x4_1).f1) ((rd_T59 l0_9 x4_1).f2) ((rd_T59 l0_9 x4_1).f3) ((rd_T59 l0_9 x4_1).f4) ((rd_T59 l0_9 x4_1).f5) ((rd_T59 l0_9 x4_1).f6) ((rd_T59 l0_9 x4_1).f7) ((rd_T59 l0_9 x4_1).f8)) = some r := by first | (rw [hy162]; with_reducible exact H) | (have H2_ := (Option.bind_some _ _).symm.trans H; rw [hy162]; with_reducible exact H2_) | (have H2_ := (Option.bind_some _ _).symm.trans H; with_reducible exact H2_) | with_reducible exact H | (rw [hy162]; exact H) | exact H
                            have Ny162 := Aside0.mk hy162
                            clear hy162
                            have H' := Aside0.mk H
                            clear H
                            have hcz21_0 : wr.cell? ⟨gb128, 0, none⟩ = some (.int .i64 a0_0) := (blk_cell BK128.out 0).trans rfl
                            have hcz21_1 : wr.cell? ⟨gb128, 1, none⟩ = some (.int .i64 a0_1) := (blk_cell BK128.out 1).trans rfl
                            have hcz21_2 : wr.cell? ⟨gb128, 2, none⟩ = some (.int .i64 a0_2) := (blk_cell BK128.out 2).trans rfl
                            have hcz21_3 : wr.cell? ⟨gb128, 3, none⟩ = some (.int .i64 a0_3) := (blk_cell BK128.out 3).trans rfl
                            have hcz21_4 : wr.cell? ⟨gb128, 4, none⟩ = some (.int .i64 a0_4) := (blk_cell BK128.out 4).trans rfl
                            have hcz21_5 : wr.cell? ⟨gb128, 5, none⟩ = some (.int .i64 a0_5) := (blk_cell BK128.out 5).trans rfl
                            have hcz21_6 : wr.cell? ⟨gb128, 6, none⟩ = some (.int .i64 a0_6) := (blk_cell BK128.out 6).trans rfl
                            have hcz21_7 : wr.cell? ⟨gb128, 7, none⟩ = some (.int .i64 a0_7) := (blk_cell BK128.out 7).trans rfl
                            have hcz21_8 : wr.cell? ⟨gb128, 8, none⟩ = some (.slice A0_8 l0_8.length c0_8) := (blk_cell BK128.out 8).trans rfl
                            have hcz21_9 : wr.cell? ⟨gb128, 9, none⟩ = some (.slice A0_9 l0_9.length c0_9) := (blk_cell BK128.out 9).trans rfl
                            have hcz21_10 : wr.cell? ⟨gb128, 10, none⟩ = some (.slice A0_10 l0_10.length c0_10) := (blk_cell BK128.out 10).trans rfl
                            have hcz21_11 : wr.cell? ⟨gb128, 11, none⟩ = some (.slice A0_11 l0_11.length c0_11) := (blk_cell BK128.out 11).trans rfl
                            have hfz21_0 := blk_frozen BK128.out 0
                            have hfz21_1 := blk_frozen BK128.out 1
                            have hfz21_2 := blk_frozen BK128.out 2
                            have hfz21_3 := blk_frozen BK128.out 3
                            have hfz21_4 := blk_frozen BK128.out 4
                            have hfz21_5 := blk_frozen BK128.out 5
                            have hfz21_6 := blk_frozen BK128.out 6
                            have hfz21_7 := blk_frozen BK128.out 7
                            have hfz21_8 := blk_frozen BK128.out 8
                            have hfz21_9 := blk_frozen BK128.out 9
                            have hfz21_10 := blk_frozen BK128.out 10
                            have hfz21_11 := blk_frozen BK128.out 11
                            have p142 : 0 ≤ (x4_1 : Int) := of_decide_eq_true (by first | (with_reducible assumption) | assumption)
                            have q142 : x4_1 < (l0_9.length : Int) := of_decide_eq_true (by first | (with_reducible assumption) | assumption)
                            obtain ⟨ad142, A142_0, c142_0, A142_1, c142_1, A142_2, c142_2, A142_3, c142_3, A142_4, c142_4, A142_5, c142_5, A142_6, c142_6, A142_7, c142_7, A142_8, c142_8, e142, hx142_0, hx142_1, hx142_2, hx142_3, hx142_4, hx142_5, hx142_6, hx142_7, hx142_8, hl142_0, hi142_0, hl142_1, hi142_1, hl142_2, hi142_2, hl142_3, hi142_3, hl142_4, hi142_4, hl142_5, hi142_5, hl142_6, hi142_6, hl142_7, hi142_7, hl142_8, hi142_8⟩ := at_T59 HR0_9.out x4_1 p142 q142
                            cases e142
                            replace hx142_0 := (HB.out.cell (World.block_lt_of_cell? w _ hx142_0)).trans hx142_0
                            replace hx142_1 := (HB.out.cell (World.block_lt_of_cell? w _ hx142_1)).trans hx142_1
                            replace hx142_2 := (HB.out.cell (World.block_lt_of_cell? w _ hx142_2)).trans hx142_2
                            replace hx142_3 := (HB.out.cell (World.block_lt_of_cell? w _ hx142_3)).trans hx142_3
                            replace hx142_4 := (HB.out.cell (World.block_lt_of_cell? w _ hx142_4)).trans hx142_4
                            replace hx142_5 := (HB.out.cell (World.block_lt_of_cell? w _ hx142_5)).trans hx142_5
                            replace hx142_6 := (HB.out.cell (World.block_lt_of_cell? w _ hx142_6)).trans hx142_6
                            replace hx142_7 := (HB.out.cell (World.block_lt_of_cell? w _ hx142_7)).trans hx142_7
                            replace hx142_8 := (HB.out.cell (World.block_lt_of_cell? w _ hx142_8)).trans hx142_8
                            have HR142_0 := Aside0.mk hi142_0
                            have HC142_0 := Aside0.mk hl142_0
                            clear hi142_0 hl142_0
                            have HR142_1 := Aside0.mk hi142_1
                            have HC142_1 := Aside0.mk hl142_1
                            clear hi142_1 hl142_1
                            have HR142_2 := Aside0.mk hi142_2
                            have HC142_2 := Aside0.mk hl142_2
                            clear hi142_2 hl142_2
                            have HR142_3 := Aside0.mk hi142_3
                            have HC142_3 := Aside0.mk hl142_3
                            clear hi142_3 hl142_3
                            have HR142_4 := Aside0.mk hi142_4
                            have HC142_4 := Aside0.mk hl142_4
                            clear hi142_4 hl142_4
                            have HR142_5 := Aside0.mk hi142_5
                            have HC142_5 := Aside0.mk hl142_5
                            clear hi142_5 hl142_5
                            have HR142_6 := Aside0.mk hi142_6
                            have HC142_6 := Aside0.mk hl142_6
                            clear hi142_6 hl142_6
                            have HR142_7 := Aside0.mk hi142_7
                            have HC142_7 := Aside0.mk hl142_7
                            clear hi142_7 hl142_7
                            have HR142_8 := Aside0.mk hi142_8
                            have HC142_8 := Aside0.mk hl142_8
                            clear hi142_8 hl142_8
                            replace p142 := eq_true p142
                            replace q142 := eq_true q142
                            go_wp2_with (first | ((with_reducible refine gate_dst (N := 5) rfl ?_); refine box_event ?hg (N := 5) ?hd (cs := #[.slice none 0 0, .slice none 0 0, .slice none 0 0, .slice none 0 0, .slice none 0 0, .slice none 0 0, .slice none 0 0, .slice none 0 0, .slice none 0 0]) (t := 59) ?hr ?_; (case hd => rfl); (case hg => rfl); (case hr => first | (go_simp; done) | (go_simp; rfl)); intro gb143 hg w22 hbox hb; have n0_ := Aside0.mk (Kd.R_below (by (with_reducible repeat (first | apply Kd.R_alloc | apply Kd.R_drewN | apply Kd.R_drew)); exact HO_3.out) hb); have n1_ := Aside0.mk (blk_below (bkl_ BK128.out) hb); have n2_ := Aside0.mk (below_step by_ hb); have n3_ := Aside0.mk (hbox); have n4_ := Aside0.mk ((by rw [hg]; exact (below_size by_) : w.heap.size ≤ gb143)); have n5_ := Aside0.mk ((by rw [hg]; exact (below_size by_) : w.heap.size ≤ gb143)); have n6_ := Aside0.mk ((by rw [hg]; exact Nat.ne_of_lt (blk_lt (bkl_ BK128.out)) : gb128 ≠ gb143)); have n7_ := Aside0.mk ((by rw [hg]; exact Nat.ne_of_gt (blk_lt (bkl_ BK128.out)) : gb143 ≠ gb128)); clear HO_3; clear BK128; clear HB; have HO_3 := n0_; have BK128 := n1_; have HB := n2_; have BK143 := n3_; have GW143 := n4_; have GE143 := n5_; have NB128_143 := n6_; have NB143_128 := n7_; clear n0_ n1_ n2_ n3_ n4_ n5_ n6_ n7_; clear hb hbox hg; have hnb23 := NB143_128.out; have hnc23 := NB128_143.out; have hcz24_0 : w22.cell? ⟨gb143, 0, none⟩ = some (.slice none 0 0) := (blk_cell BK143.out 0).trans rfl; have hcz24_1 : w22.cell? ⟨gb143, 1, none⟩ = some (.slice none 0 0) := (blk_cell BK143.out 1).trans rfl; have hcz24_2 : w22.cell? ⟨gb143, 2, none⟩ = some (.slice none 0 0) := (blk_cell BK143.out 2).trans rfl; have hcz24_3 : w22.cell? ⟨gb143, 3, none⟩ = some (.slice none 0 0) := (blk_cell BK143.out 3).trans rfl; have hcz24_4 : w22.cell? ⟨gb143, 4, none⟩ = some (.slice none 0 0) := (blk_cell BK143.out 4).trans rfl; have hcz24_5 : w22.cell? ⟨gb143, 5, none⟩ = some (.slice none 0 0) := (blk_cell BK143.out 5).trans rfl; have hcz24_6 : w22.cell? ⟨gb143, 6, none⟩ = some (.slice none 0 0) := (blk_cell BK143.out 6).trans rfl; have hcz24_7 : w22.cell? ⟨gb143, 7, none⟩ = some (.slice none 0 0) := (blk_cell BK143.out 7).trans rfl; have hcz24_8 : w22.cell? ⟨gb143, 8, none⟩ = some (.slice none 0 0) := (blk_cell BK143.out 8).trans rfl; have hfz24_0 := blk_frozen BK143.out 0; have hfz24_1 := blk_frozen BK143.out 1; have hfz24_2 := blk_frozen BK143.out 2; have hfz24_3 := blk_frozen BK143.out 3; have hfz24_4 := blk_frozen BK143.out 4; have hfz24_5 := blk_frozen BK143.out 5; have hfz24_6 := blk_frozen BK143.out 6; have hfz24_7 := blk_frozen BK143.out 7; have hfz24_8 := blk_frozen BK143.out 8) | ((with_reducible refine gate_builtin (b := .append) (xs := #[.tmp 26, .tmp 28]) rfl ?_); at_builtin; refine Kd.R_append_rows (Kd.int .i8) (w0 := w) w.heap.size rfl (.tmp 26) (.tmp 28) 26 46 (.int .i8 0) 1 rfl Try.underlying26 info46 rfl (by decide) (by omega) u3 x3_1 ((rd_T59 l0_9 x4_1).f0) _ _ _ (fun _ => True) (fun _ => False) rfl rfl ?aO ?aR (fun _ _ h => h) (fun _ h => h.elim) ?aF ?aB ?aS ?aL ?_; (case aR => exact Kd.C_below HR142_0.out by_); (case aB => exact by_); (case aF => exact (fun _ _ => trivial)); (case aO => exact (by (with_reducible repeat (first | apply Kd.R_alloc | apply Kd.R_drewN | apply Kd.R_drew)); exact Kd.R_mono (Kd.R_far (p := ⟨gb143, 8, none⟩) (Kd.R_far (p := ⟨gb143, 7, none⟩) (Kd.R_far (p := ⟨gb143, 6, none⟩) (Kd.R_far (p := ⟨gb143, 5, none⟩) (Kd.R_far (p := ⟨gb143, 4, none⟩) (Kd.R_far (p := ⟨gb143, 3, none⟩) (Kd.R_far (p := ⟨gb143, 2, none⟩) (Kd.R_far (p := ⟨gb143, 1, none⟩) (Kd.R_far (p := ⟨gb143, 0, none⟩) (Kd.R_types HO_3.out BK143.out (by decide)) (fun _ hk => hk.2) (.slice A142_0 ((rd_T59 l0_9 x4_1).f0).length c142_0)) (fun _ hk => hk.2) (.slice A142_1 ((rd_T59 l0_9 x4_1).f1).length c142_1)) (fun _ hk => hk.2) (.slice A142_2 ((rd_T59 l0_9 x4_1).f2).length c142_2)) (fun _ hk => hk.2) (.slice A142_3 ((rd_T59 l0_9 x4_1).f3).length c142_3)) (fun _ hk => hk.2) (.slice A142_4 ((rd_T59 l0_9 x4_1).f4).length c142_4)) (fun _ hk => hk.2) (.slice A142_5 ((rd_T59 l0_9 x4_1).f5).length c142_5)) (fun _ hk => hk.2) (.slice A142_6 ((rd_T59 l0_9 x4_1).f6).length c142_6)) (fun _ hk => hk.2) (.slice A142_7 ((rd_T59 l0_9 x4_1).f7).length c142_7)) (fun _ hk => hk.2) (.slice A142_8 ((rd_T59 l0_9 x4_1).f8).length c142_8)) (fun _ hk => trivial))); (case aS => exact (below_size by_)); (case aL => have := LMc14.out; omega); intro v145 w25 ho hb hg hat; rw [← Ny144.out] at ho; have n0_ := Aside0.mk (blk_grown (g := gb128) (o := .cells #[.int .i64 a0_0, .int .i64 a0_1, .int .i64 a0_2, .int .i64 a0_3, .int .i64 a0_4, .int .i64 a0_5, .int .i64 a0_6, .int .i64 a0_7, .slice A0_8 l0_8.length c0_8, .slice (some ad142) l0_9.length c0_9, .slice A0_10 l0_10.length c0_10, .slice A0_11 l0_11.length c0_11] 29 (0, 0)) (by (with_reducible repeat (first | refine blk_drewN ?_ _ | refine blk_drew ?_ | refine blk_alloc ?_ _)); refine blk_far ?_ NB128_143.out _; (with_reducible repeat (first | refine blk_drewN ?_ _ | refine blk_drew ?_ | refine blk_alloc ?_ _)); refine blk_far ?_ NB128_143.out _; (with_reducible repeat (first | refine blk_drewN ?_ _ | refine blk_drew ?_ | refine blk_alloc ?_ _)); refine blk_far ?_ NB128_143.out _; (with_reducible repeat (first | refine blk_drewN ?_ _ | refine blk_drew ?_ | refine blk_alloc ?_ _)); refine blk_far ?_ NB128_143.out _; (with_reducible repeat (first | refine blk_drewN ?_ _ | refine blk_drew ?_ | refine blk_alloc ?_ _)); refine blk_far ?_ NB128_143.out _; (with_reducible repeat (first | refine blk_drewN ?_ _ | refine blk_drew ?_ | refine blk_alloc ?_ _)); refine blk_far ?_ NB128_143.out _; (with_reducible repeat (first | refine blk_drewN ?_ _ | refine blk_drew ?_ | refine blk_alloc ?_ _)); refine blk_far ?_ NB128_143.out _; (with_reducible repeat (first | refine blk_drewN ?_ _ | refine blk_drew ?_ | refine blk_alloc ?_ _)); refine blk_far ?_ NB128_143.out _; (with_reducible repeat (first | refine blk_drewN ?_ _ | refine blk_drew ?_ | refine blk_alloc ?_ _)); refine blk_far ?_ NB128_143.out _; (with_reducible repeat (first | refine blk_drewN ?_ _ | refine blk_drew ?_ | refine blk_alloc ?_ _)); exact BK128.out) hg (Kd.R_ne HO_3.out BK128.out (by decide))); have n1_ := Aside0.mk (blk_grown (g := gb143) (o := .cells #[.slice A142_0 ((rd_T59 l0_9 x4_1).f0).length c142_0, .slice A142_1 ((rd_T59 l0_9 x4_1).f1).length c142_1, .slice A142_2 ((rd_T59 l0_9 x4_1).f2).length c142_2, .slice A142_3 ((rd_T59 l0_9 x4_1).f3).length c142_3, .slice A142_4 ((rd_T59 l0_9 x4_1).f4).length c142_4, .slice A142_5 ((rd_T59 l0_9 x4_1).f5).length c142_5, .slice A142_6 ((rd_T59 l0_9 x4_1).f6).length c142_6, .slice A142_7 ((rd_T59 l0_9 x4_1).f7).length c142_7, .slice A142_8 ((rd_T59 l0_9 x4_1).f8).length c142_8] 59 (0, 0)) (by (with_reducible repeat (first | refine blk_drewN ?_ _ | refine blk_drew ?_ | refine blk_alloc ?_ _)); refine blk_put (cs := #[.slice A142_0 ((rd_T59 l0_9 x4_1).f0).length c142_0, .slice A142_1 ((rd_T59 l0_9 x4_1).f1).length c142_1, .slice A142_2 ((rd_T59 l0_9 x4_1).f2).length c142_2, .slice A142_3 ((rd_T59 l0_9 x4_1).f3).length c142_3, .slice A142_4 ((rd_T59 l0_9 x4_1).f4).length c142_4, .slice A142_5 ((rd_T59 l0_9 x4_1).f5).length c142_5, .slice A142_6 ((rd_T59 l0_9 x4_1).f6).length c142_6, .slice A142_7 ((rd_T59 l0_9 x4_1).f7).length c142_7, .slice none 0 0]) ?_ 8 _ rfl; (with_reducible repeat (first | refine blk_drewN ?_ _ | refine blk_drew ?_ | refine blk_alloc ?_ _)); refine blk_put (cs := #[.slice A142_0 ((rd_T59 l0_9 x4_1).f0).length c142_0, .slice A142_1 ((rd_T59 l0_9 x4_1).f1).length c142_1, .slice A142_2 ((rd_T59 l0_9 x4_1).f2).length c142_2, .slice A142_3 ((rd_T59 l0_9 x4_1).f3).length c142_3, .slice A142_4 ((rd_T59 l0_9 x4_1).f4).length c142_4, .slice A142_5 ((rd_T59 l0_9 x4_1).f5).length c142_5, .slice A142_6 ((rd_T59 l0_9 x4_1).f6).length c142_6, .slice none 0 0, .slice none 0 0]) ?_ 7 _ rfl; (with_reducible repeat (first | refine blk_drewN ?_ _ | refine blk_drew ?_ | refine blk_alloc ?_ _)); refine blk_put (cs := #[.slice A142_0 ((rd_T59 l0_9 x4_1).f0).length c142_0, .slice A142_1 ((rd_T59 l0_9 x4_1).f1).length c142_1, .slice A142_2 ((rd_T59 l0_9 x4_1).f2).length c142_2, .slice A142_3 ((rd_T59 l0_9 x4_1).f3).length c142_3, .slice A142_4 ((rd_T59 l0_9 x4_1).f4).length c142_4, .slice A142_5 ((rd_T59 l0_9 x4_1).f5).length c142_5, .slice none 0 0, .slice none 0 0, .slice none 0 0]) ?_ 6 _ rfl; (with_reducible repeat (first | refine blk_drewN ?_ _ | refine blk_drew ?_ | refine blk_alloc ?_ _)); refine blk_put (cs := #[.slice A142_0 ((rd_T59 l0_9 x4_1).f0).length c142_0, .slice A142_1 ((rd_T59 l0_9 x4_1).f1).length c142_1, .slice A142_2 ((rd_T59 l0_9 x4_1).f2).length c142_2, .slice A142_3 ((rd_T59 l0_9 x4_1).f3).length c142_3, .slice A142_4 ((rd_T59 l0_9 x4_1).f4).length c142_4, .slice none 0 0, .slice none 0 0, .slice none 0 0, .slice none 0 0]) ?_ 5 _ rfl; (with_reducible repeat (first | refine blk_drewN ?_ _ | refine blk_drew ?_ | refine blk_alloc ?_ _)); refine blk_put (cs := #[.slice A142_0 ((rd_T59 l0_9 x4_1).f0).length c142_0, .slice A142_1 ((rd_T59 l0_9 x4_1).f1).length c142_1, .slice A142_2 ((rd_T59 l0_9 x4_1).f2).length c142_2, .slice A142_3 ((rd_T59 l0_9 x4_1).f3).length c142_3, .slice none 0 0, .slice none 0 0, .slice none 0 0, .slice none 0 0, .slice none 0 0]) ?_ 4 _ rfl; (with_reducible repeat (first | refine blk_drewN ?_ _ | refine blk_drew ?_ | refine blk_alloc ?_ _)); refine blk_put (cs := #[.slice A142_0 ((rd_T59 l0_9 x4_1).f0).length c142_0, .slice A142_1 ((rd_T59 l0_9 x4_1).f1).length c142_1, .slice A142_2 ((rd_T59 l0_9 x4_1).f2).length c142_2, .slice none 0 0, .slice none 0 0, .slice none 0 0, .slice none 0 0, .slice none 0 0, .slice none 0 0]) ?_ 3 _ rfl; (with_reducible repeat (first | refine blk_drewN ?_ _ | refine blk_drew ?_ | refine blk_alloc ?_ _)); refine blk_put (cs := #[.slice A142_0 ((rd_T59 l0_9 x4_1).f0).length c142_0, .slice A142_1 ((rd_T59 l0_9 x4_1).f1).length c142_1, .slice none 0 0, .slice none 0 0, .slice none 0 0, .slice none 0 0, .slice none 0 0, .slice none 0 0, .slice none 0 0]) ?_ 2 _ rfl; (with_reducible repeat (first | refine blk_drewN ?_ _ | refine blk_drew ?_ | refine blk_alloc ?_ _)); refine blk_put (cs := #[.slice A142_0 ((rd_T59 l0_9 x4_1).f0).length c142_0, .slice none 0 0, .slice none 0 0, .slice none 0 0, .slice none 0 0, .slice none 0 0, .slice none 0 0, .slice none 0 0, .slice none 0 0]) ?_ 1 _ rfl; (with_reducible repeat (first | refine blk_drewN ?_ _ | refine blk_drew ?_ | refine blk_alloc ?_ _)); refine blk_put (cs := #[.slice none 0 0, .slice none 0 0, .slice none 0 0, .slice none 0 0, .slice none 0 0, .slice none 0 0, .slice none 0 0, .slice none 0 0, .slice none 0 0]) ?_ 0 _ rfl; (with_reducible repeat (first | refine blk_drewN ?_ _ | refine blk_drew ?_ | refine blk_alloc ?_ _)); exact BK143.out) hg (Kd.R_ne HO_3.out BK143.out (by decide))); have n2_ := Aside0.mk (hb); have n3_ := Aside0.mk (ho); clear BK128; clear BK143; clear HB; clear HO_3; have BK128 := n0_; have BK143 := n1_; have HB := n2_; have HO146 := n3_; clear n0_ n1_ n2_ n3_; clear ho hb hg hat; have hcz26_0 : w25.cell? ⟨gb143, 0, none⟩ = some (.slice A142_0 ((rd_T59 l0_9 x4_1).f0).length c142_0) := (blk_cell BK143.out 0).trans rfl; have hcz26_1 : w25.cell? ⟨gb143, 1, none⟩ = some (.slice A142_1 ((rd_T59 l0_9 x4_1).f1).length c142_1) := (blk_cell BK143.out 1).trans rfl; have hcz26_2 : w25.cell? ⟨gb143, 2, none⟩ = some (.slice A142_2 ((rd_T59 l0_9 x4_1).f2).length c142_2) := (blk_cell BK143.out 2).trans rfl; have hcz26_3 : w25.cell? ⟨gb143, 3, none⟩ = some (.slice A142_3 ((rd_T59 l0_9 x4_1).f3).length c142_3) := (blk_cell BK143.out 3).trans rfl; have hcz26_4 : w25.cell? ⟨gb143, 4, none⟩ = some (.slice A142_4 ((rd_T59 l0_9 x4_1).f4).length c142_4) := (blk_cell BK143.out 4).trans rfl; have hcz26_5 : w25.cell? ⟨gb143, 5, none⟩ = some (.slice A142_5 ((rd_T59 l0_9 x4_1).f5).length c142_5) := (blk_cell BK143.out 5).trans rfl; have hcz26_6 : w25.cell? ⟨gb143, 6, none⟩ = some (.slice A142_6 ((rd_T59 l0_9 x4_1).f6).length c142_6) := (blk_cell BK143.out 6).trans rfl; have hcz26_7 : w25.cell? ⟨gb143, 7, none⟩ = some (.slice A142_7 ((rd_T59 l0_9 x4_1).f7).length c142_7) := (blk_cell BK143.out 7).trans rfl; have hcz26_8 : w25.cell? ⟨gb143, 8, none⟩ = some (.slice A142_8 ((rd_T59 l0_9 x4_1).f8).length c142_8) := (blk_cell BK143.out 8).trans rfl; have hfz26_0 := blk_frozen BK143.out 0; have hfz26_1 := blk_frozen BK143.out 1; have hfz26_2 := blk_frozen BK143.out 2; have hfz26_3 := blk_frozen BK143.out 3; have hfz26_4 := blk_frozen BK143.out 4; have hfz26_5 := blk_frozen BK143.out 5; have hfz26_6 := blk_frozen BK143.out 6; have hfz26_7 := blk_frozen BK143.out 7; have hfz26_8 := blk_frozen BK143.out 8) | ((with_reducible refine gate_builtin (b := .append) (xs := #[.tmp 30, .tmp 32]) rfl ?_); at_builtin; refine Kd.R_append_rows (Kd.int .i8) (w0 := w) w.heap.size rfl (.tmp 30) (.tmp 32) 26 46 (.int .i8 0) 1 rfl Try.underlying26 info46 rfl (by decide) (by omega) v145 y144 ((rd_T59 l0_9 x4_1).f1) _ _ _ (fun _ => True) (fun _ => False) rfl rfl ?aO ?aR (fun _ _ h => h) (fun _ h => h.elim) ?aF ?aB ?aS ?aL ?_; (case aR => repeat (first | exact (Kd.C_below HR142_1.out HB.out) | (with_reducible refine Kd.C_alloc ?_ _) | (with_reducible refine Kd.C_drewN ?_ _) | (with_reducible refine Kd.C_drew ?_))); (case aB => exact by_); (case aF => exact (fun _ _ => trivial)); (case aO => exact (by (with_reducible repeat (first | apply Kd.R_alloc | apply Kd.R_drewN | apply Kd.R_drew)); exact HO146.out)); (case aS => exact (below_size by_)); (case aL => have := LMc15.out; omega); intro v148 w27 ho hb hg hat; rw [← Ny147.out] at ho; have n0_ := Aside0.mk (blk_grown (g := gb128) (o := .cells #[.int .i64 a0_0, .int .i64 a0_1, .int .i64 a0_2, .int .i64 a0_3, .int .i64 a0_4, .int .i64 a0_5, .int .i64 a0_6, .int .i64 a0_7, .slice A0_8 l0_8.length c0_8, .slice (some ad142) l0_9.length c0_9, .slice A0_10 l0_10.length c0_10, .slice A0_11 l0_11.length c0_11] 29 (0, 0)) (bkl_ BK128.out) hg (Kd.R_ne HO146.out BK128.out (by decide))); have n1_ := Aside0.mk (blk_grown (g := gb143) (o := .cells #[.slice A142_0 ((rd_T59 l0_9 x4_1).f0).length c142_0, .slice A142_1 ((rd_T59 l0_9 x4_1).f1).length c142_1, .slice A142_2 ((rd_T59 l0_9 x4_1).f2).length c142_2, .slice A142_3 ((rd_T59 l0_9 x4_1).f3).length c142_3, .slice A142_4 ((rd_T59 l0_9 x4_1).f4).length c142_4, .slice A142_5 ((rd_T59 l0_9 x4_1).f5).length c142_5, .slice A142_6 ((rd_T59 l0_9 x4_1).f6).length c142_6, .slice A142_7 ((rd_T59 l0_9 x4_1).f7).length c142_7, .slice A142_8 ((rd_T59 l0_9 x4_1).f8).length c142_8] 59 (0, 0)) (bkl_ BK143.out) hg (Kd.R_ne HO146.out BK143.out (by decide))); have n2_ := Aside0.mk (hb); have n3_ := Aside0.mk (ho); clear BK128; clear BK143; clear HB; clear HO146; have BK128 := n0_; have BK143 := n1_; have HB := n2_; have HO149 := n3_; clear n0_ n1_ n2_ n3_; clear ho hb hg hat; have hcz28_0 : w27.cell? ⟨gb143, 0, none⟩ = some (.slice A142_0 ((rd_T59 l0_9 x4_1).f0).length c142_0) := (blk_cell BK143.out 0).trans rfl; have hcz28_1 : w27.cell? ⟨gb143, 1, none⟩ = some (.slice A142_1 ((rd_T59 l0_9 x4_1).f1).length c142_1) := (blk_cell BK143.out 1).trans rfl; have hcz28_2 : w27.cell? ⟨gb143, 2, none⟩ = some (.slice A142_2 ((rd_T59 l0_9 x4_1).f2).length c142_2) := (blk_cell BK143.out 2).trans rfl; have hcz28_3 : w27.cell? ⟨gb143, 3, none⟩ = some (.slice A142_3 ((rd_T59 l0_9 x4_1).f3).length c142_3) := (blk_cell BK143.out 3).trans rfl; have hcz28_4 : w27.cell? ⟨gb143, 4, none⟩ = some (.slice A142_4 ((rd_T59 l0_9 x4_1).f4).length c142_4) := (blk_cell BK143.out 4).trans rfl; have hcz28_5 : w27.cell? ⟨gb143, 5, none⟩ = some (.slice A142_5 ((rd_T59 l0_9 x4_1).f5).length c142_5) := (blk_cell BK143.out 5).trans rfl; have hcz28_6 : w27.cell? ⟨gb143, 6, none⟩ = some (.slice A142_6 ((rd_T59 l0_9 x4_1).f6).length c142_6) := (blk_cell BK143.out 6).trans rfl; have hcz28_7 : w27.cell? ⟨gb143, 7, none⟩ = some (.slice A142_7 ((rd_T59 l0_9 x4_1).f7).length c142_7) := (blk_cell BK143.out 7).trans rfl; have hcz28_8 : w27.cell? ⟨gb143, 8, none⟩ = some (.slice A142_8 ((rd_T59 l0_9 x4_1).f8).length c142_8) := (blk_cell BK143.out 8).trans rfl; have hfz28_0 := blk_frozen BK143.out 0; have hfz28_1 := blk_frozen BK143.out 1; have hfz28_2 := blk_frozen BK143.out 2; have hfz28_3 := blk_frozen BK143.out 3; have hfz28_4 := blk_frozen BK143.out 4; have hfz28_5 := blk_frozen BK143.out 5; have hfz28_6 := blk_frozen BK143.out 6; have hfz28_7 := blk_frozen BK143.out 7; have hfz28_8 := blk_frozen BK143.out 8) | ((with_reducible refine gate_builtin (b := .append) (xs := #[.tmp 34, .tmp 36]) rfl ?_); at_builtin; refine Kd.R_append_rows (Kd.int .i8) (w0 := w) w.heap.size rfl (.tmp 34) (.tmp 36) 26 46 (.int .i8 0) 1 rfl Try.underlying26 info46 rfl (by decide) (by omega) v148 y147 ((rd_T59 l0_9 x4_1).f2) _ _ _ (fun _ => True) (fun _ => False) rfl rfl ?aO ?aR (fun _ _ h => h) (fun _ h => h.elim) ?aF ?aB ?aS ?aL ?_; (case aR => repeat (first | exact (Kd.C_below HR142_2.out HB.out) | (with_reducible refine Kd.C_alloc ?_ _) | (with_reducible refine Kd.C_drewN ?_ _) | (with_reducible refine Kd.C_drew ?_))); (case aB => exact by_); (case aF => exact (fun _ _ => trivial)); (case aO => exact (by (with_reducible repeat (first | apply Kd.R_alloc | apply Kd.R_drewN | apply Kd.R_drew)); exact HO149.out)); (case aS => exact (below_size by_)); (case aL => have := LMc16.out; omega); intro v151 w29 ho hb hg hat; rw [← Ny150.out] at ho; have n0_ := Aside0.mk (blk_grown (g := gb128) (o := .cells #[.int .i64 a0_0, .int .i64 a0_1, .int .i64 a0_2, .int .i64 a0_3, .int .i64 a0_4, .int .i64 a0_5, .int .i64 a0_6, .int .i64 a0_7, .slice A0_8 l0_8.length c0_8, .slice (some ad142) l0_9.length c0_9, .slice A0_10 l0_10.length c0_10, .slice A0_11 l0_11.length c0_11] 29 (0, 0)) (bkl_ BK128.out) hg (Kd.R_ne HO149.out BK128.out (by decide))); have n1_ := Aside0.mk (blk_grown (g := gb143) (o := .cells #[.slice A142_0 ((rd_T59 l0_9 x4_1).f0).length c142_0, .slice A142_1 ((rd_T59 l0_9 x4_1).f1).length c142_1, .slice A142_2 ((rd_T59 l0_9 x4_1).f2).length c142_2, .slice A142_3 ((rd_T59 l0_9 x4_1).f3).length c142_3, .slice A142_4 ((rd_T59 l0_9 x4_1).f4).length c142_4, .slice A142_5 ((rd_T59 l0_9 x4_1).f5).length c142_5, .slice A142_6 ((rd_T59 l0_9 x4_1).f6).length c142_6, .slice A142_7 ((rd_T59 l0_9 x4_1).f7).length c142_7, .slice A142_8 ((rd_T59 l0_9 x4_1).f8).length c142_8] 59 (0, 0)) (bkl_ BK143.out) hg (Kd.R_ne HO149.out BK143.out (by decide))); have n2_ := Aside0.mk (hb); have n3_ := Aside0.mk (ho); clear BK128; clear BK143; clear HB; clear HO149; have BK128 := n0_; have BK143 := n1_; have HB := n2_; have HO152 := n3_; clear n0_ n1_ n2_ n3_; clear ho hb hg hat; have hcz30_0 : w29.cell? ⟨gb143, 0, none⟩ = some (.slice A142_0 ((rd_T59 l0_9 x4_1).f0).length c142_0) := (blk_cell BK143.out 0).trans rfl; have hcz30_1 : w29.cell? ⟨gb143, 1, none⟩ = some (.slice A142_1 ((rd_T59 l0_9 x4_1).f1).length c142_1) := (blk_cell BK143.out 1).trans rfl; have hcz30_2 : w29.cell? ⟨gb143, 2, none⟩ = some (.slice A142_2 ((rd_T59 l0_9 x4_1).f2).length c142_2) := (blk_cell BK143.out 2).trans rfl; have hcz30_3 : w29.cell? ⟨gb143, 3, none⟩ = some (.slice A142_3 ((rd_T59 l0_9 x4_1).f3).length c142_3) := (blk_cell BK143.out 3).trans rfl; have hcz30_4 : w29.cell? ⟨gb143, 4, none⟩ = some (.slice A142_4 ((rd_T59 l0_9 x4_1).f4).length c142_4) := (blk_cell BK143.out 4).trans rfl; have hcz30_5 : w29.cell? ⟨gb143, 5, none⟩ = some (.slice A142_5 ((rd_T59 l0_9 x4_1).f5).length c142_5) := (blk_cell BK143.out 5).trans rfl; have hcz30_6 : w29.cell? ⟨gb143, 6, none⟩ = some (.slice A142_6 ((rd_T59 l0_9 x4_1).f6).length c142_6) := (blk_cell BK143.out 6).trans rfl; have hcz30_7 : w29.cell? ⟨gb143, 7, none⟩ = some (.slice A142_7 ((rd_T59 l0_9 x4_1).f7).length c142_7) := (blk_cell BK143.out 7).trans rfl; have hcz30_8 : w29.cell? ⟨gb143, 8, none⟩ = some (.slice A142_8 ((rd_T59 l0_9 x4_1).f8).length c142_8) := (blk_cell BK143.out 8).trans rfl; have hfz30_0 := blk_frozen BK143.out 0; have hfz30_1 := blk_frozen BK143.out 1; have hfz30_2 := blk_frozen BK143.out 2; have hfz30_3 := blk_frozen BK143.out 3; have hfz30_4 := blk_frozen BK143.out 4; have hfz30_5 := blk_frozen BK143.out 5; have hfz30_6 := blk_frozen BK143.out 6; have hfz30_7 := blk_frozen BK143.out 7; have hfz30_8 := blk_frozen BK143.out 8) | ((with_reducible refine gate_builtin (b := .append) (xs := #[.tmp 38, .tmp 40]) rfl ?_); at_builtin; refine Kd.R_append_rows (Kd.int .i8) (w0 := w) w.heap.size rfl (.tmp 38) (.tmp 40) 26 46 (.int .i8 0) 1 rfl Try.underlying26 info46 rfl (by decide) (by omega) v151 y150 ((rd_T59 l0_9 x4_1).f3) _ _ _ (fun _ => True) (fun _ => False) rfl rfl ?aO ?aR (fun _ _ h => h) (fun _ h => h.elim) ?aF ?aB ?aS ?aL ?_; (case aR => repeat (first | exact (Kd.C_below HR142_3.out HB.out) | (with_reducible refine Kd.C_alloc ?_ _) | (with_reducible refine Kd.C_drewN ?_ _) | (with_reducible refine Kd.C_drew ?_))); (case aB => exact by_); (case aF => exact (fun _ _ => trivial)); (case aO => exact (by (with_reducible repeat (first | apply Kd.R_alloc | apply Kd.R_drewN | apply Kd.R_drew)); exact HO152.out)); (case aS => exact (below_size by_)); (case aL => have := LMc17.out; omega); intro v154 w31 ho hb hg hat; rw [← Ny153.out] at ho; have n0_ := Aside0.mk (blk_grown (g := gb128) (o := .cells #[.int .i64 a0_0, .int .i64 a0_1, .int .i64 a0_2, .int .i64 a0_3, .int .i64 a0_4, .int .i64 a0_5, .int .i64 a0_6, .int .i64 a0_7, .slice A0_8 l0_8.length c0_8, .slice (some ad142) l0_9.length c0_9, .slice A0_10 l0_10.length c0_10, .slice A0_11 l0_11.length c0_11] 29 (0, 0)) (bkl_ BK128.out) hg (Kd.R_ne HO152.out BK128.out (by decide))); have n1_ := Aside0.mk (blk_grown (g := gb143) (o := .cells #[.slice A142_0 ((rd_T59 l0_9 x4_1).f0).length c142_0, .slice A142_1 ((rd_T59 l0_9 x4_1).f1).length c142_1, .slice A142_2 ((rd_T59 l0_9 x4_1).f2).length c142_2, .slice A142_3 ((rd_T59 l0_9 x4_1).f3).length c142_3, .slice A142_4 ((rd_T59 l0_9 x4_1).f4).length c142_4, .slice A142_5 ((rd_T59 l0_9 x4_1).f5).length c142_5, .slice A142_6 ((rd_T59 l0_9 x4_1).f6).length c142_6, .slice A142_7 ((rd_T59 l0_9 x4_1).f7).length c142_7, .slice A142_8 ((rd_T59 l0_9 x4_1).f8).length c142_8] 59 (0, 0)) (bkl_ BK143.out) hg (Kd.R_ne HO152.out BK143.out (by decide))); have n2_ := Aside0.mk (hb); have n3_ := Aside0.mk (ho); clear BK128; clear BK143; clear HB; clear HO152; have BK128 := n0_; have BK143 := n1_; have HB := n2_; have HO155 := n3_; clear n0_ n1_ n2_ n3_; clear ho hb hg hat; have hcz32_0 : w31.cell? ⟨gb143, 0, none⟩ = some (.slice A142_0 ((rd_T59 l0_9 x4_1).f0).length c142_0) := (blk_cell BK143.out 0).trans rfl; have hcz32_1 : w31.cell? ⟨gb143, 1, none⟩ = some (.slice A142_1 ((rd_T59 l0_9 x4_1).f1).length c142_1) := (blk_cell BK143.out 1).trans rfl; have hcz32_2 : w31.cell? ⟨gb143, 2, none⟩ = some (.slice A142_2 ((rd_T59 l0_9 x4_1).f2).length c142_2) := (blk_cell BK143.out 2).trans rfl; have hcz32_3 : w31.cell? ⟨gb143, 3, none⟩ = some (.slice A142_3 ((rd_T59 l0_9 x4_1).f3).length c142_3) := (blk_cell BK143.out 3).trans rfl; have hcz32_4 : w31.cell? ⟨gb143, 4, none⟩ = some (.slice A142_4 ((rd_T59 l0_9 x4_1).f4).length c142_4) := (blk_cell BK143.out 4).trans rfl; have hcz32_5 : w31.cell? ⟨gb143, 5, none⟩ = some (.slice A142_5 ((rd_T59 l0_9 x4_1).f5).length c142_5) := (blk_cell BK143.out 5).trans rfl; have hcz32_6 : w31.cell? ⟨gb143, 6, none⟩ = some (.slice A142_6 ((rd_T59 l0_9 x4_1).f6).length c142_6) := (blk_cell BK143.out 6).trans rfl; have hcz32_7 : w31.cell? ⟨gb143, 7, none⟩ = some (.slice A142_7 ((rd_T59 l0_9 x4_1).f7).length c142_7) := (blk_cell BK143.out 7).trans rfl; have hcz32_8 : w31.cell? ⟨gb143, 8, none⟩ = some (.slice A142_8 ((rd_T59 l0_9 x4_1).f8).length c142_8) := (blk_cell BK143.out 8).trans rfl; have hfz32_0 := blk_frozen BK143.out 0; have hfz32_1 := blk_frozen BK143.out 1; have hfz32_2 := blk_frozen BK143.out 2; have hfz32_3 := blk_frozen BK143.out 3; have hfz32_4 := blk_frozen BK143.out 4; have hfz32_5 := blk_frozen BK143.out 5; have hfz32_6 := blk_frozen BK143.out 6; have hfz32_7 := blk_frozen BK143.out 7; have hfz32_8 := blk_frozen BK143.out 8) | ((with_reducible refine gate_builtin (b := .append) (xs := #[.tmp 42, .tmp 44]) rfl ?_); at_builtin; refine Kd.R_append_rows (Kd.int .i8) (w0 := w) w.heap.size rfl (.tmp 42) (.tmp 44) 26 46 (.int .i8 0) 1 rfl Try.underlying26 info46 rfl (by decide) (by omega) v154 y153 ((rd_T59 l0_9 x4_1).f4) _ _ _ (fun _ => True) (fun _ => False) rfl rfl ?aO ?aR (fun _ _ h => h) (fun _ h => h.elim) ?aF ?aB ?aS ?aL ?_; (case aR => repeat (first | exact (Kd.C_below HR142_4.out HB.out) | (with_reducible refine Kd.C_alloc ?_ _) | (with_reducible refine Kd.C_drewN ?_ _) | (with_reducible refine Kd.C_drew ?_))); (case aB => exact by_); (case aF => exact (fun _ _ => trivial)); (case aO => exact (by (with_reducible repeat (first | apply Kd.R_alloc | apply Kd.R_drewN | apply Kd.R_drew)); exact HO155.out)); (case aS => exact (below_size by_)); (case aL => have := LMc18.out; omega); intro v157 w33 ho hb hg hat; rw [← Ny156.out] at ho; have n0_ := Aside0.mk (blk_grown (g := gb128) (o := .cells #[.int .i64 a0_0, .int .i64 a0_1, .int .i64 a0_2, .int .i64 a0_3, .int .i64 a0_4, .int .i64 a0_5, .int .i64 a0_6, .int .i64 a0_7, .slice A0_8 l0_8.length c0_8, .slice (some ad142) l0_9.length c0_9, .slice A0_10 l0_10.length c0_10, .slice A0_11 l0_11.length c0_11] 29 (0, 0)) (bkl_ BK128.out) hg (Kd.R_ne HO155.out BK128.out (by decide))); have n1_ := Aside0.mk (blk_grown (g := gb143) (o := .cells #[.slice A142_0 ((rd_T59 l0_9 x4_1).f0).length c142_0, .slice A142_1 ((rd_T59 l0_9 x4_1).f1).length c142_1, .slice A142_2 ((rd_T59 l0_9 x4_1).f2).length c142_2, .slice A142_3 ((rd_T59 l0_9 x4_1).f3).length c142_3, .slice A142_4 ((rd_T59 l0_9 x4_1).f4).length c142_4, .slice A142_5 ((rd_T59 l0_9 x4_1).f5).length c142_5, .slice A142_6 ((rd_T59 l0_9 x4_1).f6).length c142_6, .slice A142_7 ((rd_T59 l0_9 x4_1).f7).length c142_7, .slice A142_8 ((rd_T59 l0_9 x4_1).f8).length c142_8] 59 (0, 0)) (bkl_ BK143.out) hg (Kd.R_ne HO155.out BK143.out (by decide))); have n2_ := Aside0.mk (hb); have n3_ := Aside0.mk (ho); clear BK128; clear BK143; clear HB; clear HO155; have BK128 := n0_; have BK143 := n1_; have HB := n2_; have HO158 := n3_; clear n0_ n1_ n2_ n3_; clear ho hb hg hat; have hcz34_0 : w33.cell? ⟨gb143, 0, none⟩ = some (.slice A142_0 ((rd_T59 l0_9 x4_1).f0).length c142_0) := (blk_cell BK143.out 0).trans rfl; have hcz34_1 : w33.cell? ⟨gb143, 1, none⟩ = some (.slice A142_1 ((rd_T59 l0_9 x4_1).f1).length c142_1) := (blk_cell BK143.out 1).trans rfl; have hcz34_2 : w33.cell? ⟨gb143, 2, none⟩ = some (.slice A142_2 ((rd_T59 l0_9 x4_1).f2).length c142_2) := (blk_cell BK143.out 2).trans rfl; have hcz34_3 : w33.cell? ⟨gb143, 3, none⟩ = some (.slice A142_3 ((rd_T59 l0_9 x4_1).f3).length c142_3) := (blk_cell BK143.out 3).trans rfl; have hcz34_4 : w33.cell? ⟨gb143, 4, none⟩ = some (.slice A142_4 ((rd_T59 l0_9 x4_1).f4).length c142_4) := (blk_cell BK143.out 4).trans rfl; have hcz34_5 : w33.cell? ⟨gb143, 5, none⟩ = some (.slice A142_5 ((rd_T59 l0_9 x4_1).f5).length c142_5) := (blk_cell BK143.out 5).trans rfl; have hcz34_6 : w33.cell? ⟨gb143, 6, none⟩ = some (.slice A142_6 ((rd_T59 l0_9 x4_1).f6).length c142_6) := (blk_cell BK143.out 6).trans rfl; have hcz34_7 : w33.cell? ⟨gb143, 7, none⟩ = some (.slice A142_7 ((rd_T59 l0_9 x4_1).f7).length c142_7) := (blk_cell BK143.out 7).trans rfl; have hcz34_8 : w33.cell? ⟨gb143, 8, none⟩ = some (.slice A142_8 ((rd_T59 l0_9 x4_1).f8).length c142_8) := (blk_cell BK143.out 8).trans rfl; have hfz34_0 := blk_frozen BK143.out 0; have hfz34_1 := blk_frozen BK143.out 1; have hfz34_2 := blk_frozen BK143.out 2; have hfz34_3 := blk_frozen BK143.out 3; have hfz34_4 := blk_frozen BK143.out 4; have hfz34_5 := blk_frozen BK143.out 5; have hfz34_6 := blk_frozen BK143.out 6; have hfz34_7 := blk_frozen BK143.out 7; have hfz34_8 := blk_frozen BK143.out 8) | ((with_reducible refine gate_builtin (b := .append) (xs := #[.tmp 46, .tmp 48]) rfl ?_); at_builtin; refine Kd.R_append_rows (Kd.int .i8) (w0 := w) w.heap.size rfl (.tmp 46) (.tmp 48) 26 46 (.int .i8 0) 1 rfl Try.underlying26 info46 rfl (by decide) (by omega) v157 y156 ((rd_T59 l0_9 x4_1).f5) _ _ _ (fun _ => True) (fun _ => False) rfl rfl ?aO ?aR (fun _ _ h => h) (fun _ h => h.elim) ?aF ?aB ?aS ?aL ?_; (case aR => repeat (first | exact (Kd.C_below HR142_5.out HB.out) | (with_reducible refine Kd.C_alloc ?_ _) | (with_reducible refine Kd.C_drewN ?_ _) | (with_reducible refine Kd.C_drew ?_))); (case aB => exact by_); (case aF => exact (fun _ _ => trivial)); (case aO => exact (by (with_reducible repeat (first | apply Kd.R_alloc | apply Kd.R_drewN | apply Kd.R_drew)); exact HO158.out)); (case aS => exact (below_size by_)); (case aL => have := LMc19.out; omega); intro v160 w35 ho hb hg hat; rw [← Ny159.out] at ho; have n0_ := Aside0.mk (blk_grown (g := gb128) (o := .cells #[.int .i64 a0_0, .int .i64 a0_1, .int .i64 a0_2, .int .i64 a0_3, .int .i64 a0_4, .int .i64 a0_5, .int .i64 a0_6, .int .i64 a0_7, .slice A0_8 l0_8.length c0_8, .slice (some ad142) l0_9.length c0_9, .slice A0_10 l0_10.length c0_10, .slice A0_11 l0_11.length c0_11] 29 (0, 0)) (bkl_ BK128.out) hg (Kd.R_ne HO158.out BK128.out (by decide))); have n1_ := Aside0.mk (blk_grown (g := gb143) (o := .cells #[.slice A142_0 ((rd_T59 l0_9 x4_1).f0).length c142_0, .slice A142_1 ((rd_T59 l0_9 x4_1).f1).length c142_1, .slice A142_2 ((rd_T59 l0_9 x4_1).f2).length c142_2, .slice A142_3 ((rd_T59 l0_9 x4_1).f3).length c142_3, .slice A142_4 ((rd_T59 l0_9 x4_1).f4).length c142_4, .slice A142_5 ((rd_T59 l0_9 x4_1).f5).length c142_5, .slice A142_6 ((rd_T59 l0_9 x4_1).f6).length c142_6, .slice A142_7 ((rd_T59 l0_9 x4_1).f7).length c142_7, .slice A142_8 ((rd_T59 l0_9 x4_1).f8).length c142_8] 59 (0, 0)) (bkl_ BK143.out) hg (Kd.R_ne HO158.out BK143.out (by decide))); have n2_ := Aside0.mk (hb); have n3_ := Aside0.mk (ho); clear BK128; clear BK143; clear HB; clear HO158; have BK128 := n0_; have BK143 := n1_; have HB := n2_; have HO161 := n3_; clear n0_ n1_ n2_ n3_; clear ho hb hg hat; have hcz36_0 : w35.cell? ⟨gb143, 0, none⟩ = some (.slice A142_0 ((rd_T59 l0_9 x4_1).f0).length c142_0) := (blk_cell BK143.out 0).trans rfl; have hcz36_1 : w35.cell? ⟨gb143, 1, none⟩ = some (.slice A142_1 ((rd_T59 l0_9 x4_1).f1).length c142_1) := (blk_cell BK143.out 1).trans rfl; have hcz36_2 : w35.cell? ⟨gb143, 2, none⟩ = some (.slice A142_2 ((rd_T59 l0_9 x4_1).f2).length c142_2) := (blk_cell BK143.out 2).trans rfl; have hcz36_3 : w35.cell? ⟨gb143, 3, none⟩ = some (.slice A142_3 ((rd_T59 l0_9 x4_1).f3).length c142_3) := (blk_cell BK143.out 3).trans rfl; have hcz36_4 : w35.cell? ⟨gb143, 4, none⟩ = some (.slice A142_4 ((rd_T59 l0_9 x4_1).f4).length c142_4) := (blk_cell BK143.out 4).trans rfl; have hcz36_5 : w35.cell? ⟨gb143, 5, none⟩ = some (.slice A142_5 ((rd_T59 l0_9 x4_1).f5).length c142_5) := (blk_cell BK143.out 5).trans rfl; have hcz36_6 : w35.cell? ⟨gb143, 6, none⟩ = some (.slice A142_6 ((rd_T59 l0_9 x4_1).f6).length c142_6) := (blk_cell BK143.out 6).trans rfl; have hcz36_7 : w35.cell? ⟨gb143, 7, none⟩ = some (.slice A142_7 ((rd_T59 l0_9 x4_1).f7).length c142_7) := (blk_cell BK143.out 7).trans rfl; have hcz36_8 : w35.cell? ⟨gb143, 8, none⟩ = some (.slice A142_8 ((rd_T59 l0_9 x4_1).f8).length c142_8) := (blk_cell BK143.out 8).trans rfl; have hfz36_0 := blk_frozen BK143.out 0; have hfz36_1 := blk_frozen BK143.out 1; have hfz36_2 := blk_frozen BK143.out 2; have hfz36_3 := blk_frozen BK143.out 3; have hfz36_4 := blk_frozen BK143.out 4; have hfz36_5 := blk_frozen BK143.out 5; have hfz36_6 := blk_frozen BK143.out 6; have hfz36_7 := blk_frozen BK143.out 7; have hfz36_8 := blk_frozen BK143.out 8) | ((with_reducible refine gate_builtin (b := .append) (xs := #[.tmp 50, .tmp 52]) rfl ?_); at_builtin; refine Kd.R_append_rows (Kd.int .i8) (w0 := w) w.heap.size rfl (.tmp 50) (.tmp 52) 26 46 (.int .i8 0) 1 rfl Try.underlying26 info46 rfl (by decide) (by omega) v160 y159 ((rd_T59 l0_9 x4_1).f6) _ _ _ (fun _ => True) (fun _ => False) rfl rfl ?aO ?aR (fun _ _ h => h) (fun _ h => h.elim) ?aF ?aB ?aS ?aL ?_; (case aR => repeat (first | exact (Kd.C_below HR142_6.out HB.out) | (with_reducible refine Kd.C_alloc ?_ _) | (with_reducible refine Kd.C_drewN ?_ _) | (with_reducible refine Kd.C_drew ?_))); (case aB => exact by_); (case aF => exact (fun _ _ => trivial)); (case aO => exact (by (with_reducible repeat (first | apply Kd.R_alloc | apply Kd.R_drewN | apply Kd.R_drew)); exact HO161.out)); (case aS => exact (below_size by_)); (case aL => have := LMc20.out; omega); intro v163 w37 ho hb hg hat; rw [← Ny162.out] at ho; have n0_ := Aside0.mk (blk_grown (g := gb128) (o := .cells #[.int .i64 a0_0, .int .i64 a0_1, .int .i64 a0_2, .int .i64 a0_3, .int .i64 a0_4, .int .i64 a0_5, .int .i64 a0_6, .int .i64 a0_7, .slice A0_8 l0_8.length c0_8, .slice (some ad142) l0_9.length c0_9, .slice A0_10 l0_10.length c0_10, .slice A0_11 l0_11.length c0_11] 29 (0, 0)) (bkl_ BK128.out) hg (Kd.R_ne HO161.out BK128.out (by decide))); have n1_ := Aside0.mk (blk_grown (g := gb143) (o := .cells #[.slice A142_0 ((rd_T59 l0_9 x4_1).f0).length c142_0, .slice A142_1 ((rd_T59 l0_9 x4_1).f1).length c142_1, .slice A142_2 ((rd_T59 l0_9 x4_1).f2).length c142_2, .slice A142_3 ((rd_T59 l0_9 x4_1).f3).length c142_3, .slice A142_4 ((rd_T59 l0_9 x4_1).f4).length c142_4, .slice A142_5 ((rd_T59 l0_9 x4_1).f5).length c142_5, .slice A142_6 ((rd_T59 l0_9 x4_1).f6).length c142_6, .slice A142_7 ((rd_T59 l0_9 x4_1).f7).length c142_7, .slice A142_8 ((rd_T59 l0_9 x4_1).f8).length c142_8] 59 (0, 0)) (bkl_ BK143.out) hg (Kd.R_ne HO161.out BK143.out (by decide))); have n2_ := Aside0.mk (hb); have n3_ := Aside0.mk (ho); clear BK128; clear BK143; clear HB; clear HO161; have BK128 := n0_; have BK143 := n1_; have HB := n2_; have HO164 := n3_; clear n0_ n1_ n2_ n3_; clear ho hb hg hat))
                            go_loopg [3, 6] k1 (fun kq v3 v6 w' => ∃ (x3_2 : List Int) (x6_2 : Int), v6 = .int .i64 x6_2 ∧ Aside0 (aviaryref09_Flat.l1 kq x3_2 x4_1 x6_2 a0_0 a0_1 a0_2 a0_3 a0_4 a0_5 a0_6 a0_7 l0_8 l0_9 l0_10 l0_11 ((rd_T59 l0_9 x4_1).f0) ((rd_T59 l0_9 x4_1).f1) ((rd_T59 l0_9 x4_1).f2) ((rd_T59 l0_9 x4_1).f3) ((rd_T59 l0_9 x4_1).f4) ((rd_T59 l0_9 x4_1).f5) ((rd_T59 l0_9 x4_1).f6) ((rd_T59 l0_9 x4_1).f7) ((rd_T59 l0_9 x4_1).f8) = some r) ∧ Aside0 (kq ≤ k1) ∧ Aside0 (Kd.R (Kd.int .i8) 46 w' w.heap.size (fun _ => True) v3 x3_2) ∧ Aside0 (w'.heap[gb128]? = some (.cells #[.int .i64 a0_0, .int .i64 a0_1, .int .i64 a0_2, .int .i64 a0_3, .int .i64 a0_4, .int .i64 a0_5, .int .i64 a0_6, .int .i64 a0_7, (.slice A0_8 l0_8.length c0_8), (.slice (some ad142) l0_9.length c0_9), (.slice A0_10 l0_10.length c0_10), (.slice A0_11 l0_11.length c0_11)] 29 (0, 0))) ∧ Aside0 (w'.heap[gb143]? = some (.cells #[(.slice A142_0 ((rd_T59 l0_9 x4_1).f0).length c142_0), (.slice A142_1 ((rd_T59 l0_9 x4_1).f1).length c142_1), (.slice A142_2 ((rd_T59 l0_9 x4_1).f2).length c142_2), (.slice A142_3 ((rd_T59 l0_9 x4_1).f3).length c142_3), (.slice A142_4 ((rd_T59 l0_9 x4_1).f4).length c142_4), (.slice A142_5 ((rd_T59 l0_9 x4_1).f5).length c142_5), (.slice A142_6 ((rd_T59 l0_9 x4_1).f6).length c142_6), (.slice A142_7 ((rd_T59 l0_9 x4_1).f7).length c142_7), (.slice A142_8 ((rd_T59 l0_9 x4_1).f8).length c142_8)] 59 (0, 0))) ∧ Aside0 (Below w.heap.size w w'))
                            case atStart => exact ⟨(y162), (0), (by first | rfl | (simp; done) | (simp [*]; done)), H', ⟨Nat.le_refl _⟩, ⟨by (with_reducible repeat (first | apply Kd.R_alloc | apply Kd.R_drewN | apply Kd.R_drew)); exact HO164.out⟩, ⟨by (with_reducible repeat (first | refine blk_drewN ?_ _ | refine blk_drew ?_ | refine blk_alloc ?_ _)); exact BK128.out⟩, ⟨by (with_reducible repeat (first | refine blk_drewN ?_ _ | refine blk_drew ?_ | refine blk_alloc ?_ _)); exact BK143.out⟩, ⟨by repeat (first | (with_reducible first | exact HB.out | apply below_alloc | apply pw_below_drewN | apply below_drew1 | refine below_set ?_ GE128.out | refine below_set ?_ GE143.out) | exact HB.out)⟩⟩
                            case round =>
                              clear H'
                              try clear c1
                              try clear p1
                              try clear q1
                              try clear hx1
                              try clear c2
                              try clear p2
                              try clear c3
                              try clear c3b0
                              try clear c3b1
                              try clear c4
                              try clear c12
                              try clear c12b0
                              try clear c13
                              try clear c13b0
                              try clear c14
                              try clear p14
                              try clear q14
                              try clear hx14
                              try clear c15
                              try clear c16
                              try clear c17
                              try clear c18
                              try clear c19
                              try clear c20
                              try clear c23
                              try clear hcz10_0
                              try clear hcz10_1
                              try clear hcz10_10
                              try clear hcz10_11
                              try clear hcz10_2
                              try clear hcz10_3
                              try clear hcz10_4
                              try clear hcz10_5
                              try clear hcz10_6
                              try clear hcz10_7
                              try clear hcz10_8
                              try clear hcz10_9
                              try clear hcz21_0
                              try clear hcz21_1
                              try clear hcz21_10
                              try clear hcz21_11
                              try clear hcz21_2
                              try clear hcz21_3
                              try clear hcz21_4
                              try clear hcz21_5
                              try clear hcz21_6
                              try clear hcz21_7
                              try clear hcz21_8
                              try clear hcz21_9
                              try clear hcz24_0
                              try clear hcz24_1
                              try clear hcz24_2
                              try clear hcz24_3
                              try clear hcz24_4
                              try clear hcz24_5
                              try clear hcz24_6
                              try clear hcz24_7
                              try clear hcz24_8
                              try clear hcz26_0
                              try clear hcz26_1
                              try clear hcz26_2
                              try clear hcz26_3
                              try clear hcz26_4
                              try clear hcz26_5
                              try clear hcz26_6
                              try clear hcz26_7
                              try clear hcz26_8
                              try clear hcz28_0
                              try clear hcz28_1
                              try clear hcz28_2
                              try clear hcz28_3
                              try clear hcz28_4
                              try clear hcz28_5
                              try clear hcz28_6
                              try clear hcz28_7
                              try clear hcz28_8
                              try clear hcz30_0
                              try clear hcz30_1
                              try clear hcz30_2
                              try clear hcz30_3
                              try clear hcz30_4
                              try clear hcz30_5
                              try clear hcz30_6
                              try clear hcz30_7
                              try clear hcz30_8
                              try clear hcz32_0
                              try clear hcz32_1
                              try clear hcz32_2
                              try clear hcz32_3
                              try clear hcz32_4
                              try clear hcz32_5
                              try clear hcz32_6
                              try clear hcz32_7
                              try clear hcz32_8
                              try clear hcz34_0
                              try clear hcz34_1
                              try clear hcz34_2
                              try clear hcz34_3
                              try clear hcz34_4
                              try clear hcz34_5
                              try clear hcz34_6
                              try clear hcz34_7
                              try clear hcz34_8
                              try clear hcz36_0
                              try clear hcz36_1
                              try clear hcz36_2
                              try clear hcz36_3
                              try clear hcz36_4
                              try clear hcz36_5
                              try clear hcz36_6
                              try clear hcz36_7
                              try clear hcz36_8
                              try clear hcz6_0
                              try clear hcz6_1
                              try clear hcz6_10
                              try clear hcz6_11
                              try clear hcz6_2
                              try clear hcz6_3
                              try clear hcz6_4
                              try clear hcz6_5
                              try clear hcz6_6
                              try clear hcz6_7
                              try clear hcz6_8
                              try clear hcz6_9
                              try clear hfz10_0
                              try clear hfz10_1
                              try clear hfz10_10
                              try clear hfz10_11
                              try clear hfz10_2
                              try clear hfz10_3
                              try clear hfz10_4
                              try clear hfz10_5
                              try clear hfz10_6
                              try clear hfz10_7
                              try clear hfz10_8
                              try clear hfz10_9
                              try clear hfz21_0
                              try clear hfz21_1
                              try clear hfz21_10
                              try clear hfz21_11
                              try clear hfz21_2
                              try clear hfz21_3
                              try clear hfz21_4
                              try clear hfz21_5
                              try clear hfz21_6
                              try clear hfz21_7
                              try clear hfz21_8
                              try clear hfz21_9
                              try clear hfz24_0
                              try clear hfz24_1
                              try clear hfz24_2
                              try clear hfz24_3
                              try clear hfz24_4
                              try clear hfz24_5
                              try clear hfz24_6
                              try clear hfz24_7
                              try clear hfz24_8
                              try clear hfz26_0
                              try clear hfz26_1
                              try clear hfz26_2
                              try clear hfz26_3
                              try clear hfz26_4
                              try clear hfz26_5
                              try clear hfz26_6
                              try clear hfz26_7
                              try clear hfz26_8
                              try clear hfz28_0
                              try clear hfz28_1
                              try clear hfz28_2
                              try clear hfz28_3
                              try clear hfz28_4
                              try clear hfz28_5
                              try clear hfz28_6
                              try clear hfz28_7
                              try clear hfz28_8
                              try clear hfz30_0
                              try clear hfz30_1
                              try clear hfz30_2
                              try clear hfz30_3
                              try clear hfz30_4
                              try clear hfz30_5
                              try clear hfz30_6
                              try clear hfz30_7
                              try clear hfz30_8
                              try clear hfz32_0
                              try clear hfz32_1
                              try clear hfz32_2
                              try clear hfz32_3
                              try clear hfz32_4
                              try clear hfz32_5
                              try clear hfz32_6
                              try clear hfz32_7
                              try clear hfz32_8
                              try clear hfz34_0
                              try clear hfz34_1
                              try clear hfz34_2
                              try clear hfz34_3
                              try clear hfz34_4
                              try clear hfz34_5
                              try clear hfz34_6
                              try clear hfz34_7
                              try clear hfz34_8
                              try clear hfz36_0
                              try clear hfz36_1
                              try clear hfz36_2
                              try clear hfz36_3
                              try clear hfz36_4
                              try clear hfz36_5
                              try clear hfz36_6
                              try clear hfz36_7
                              try clear hfz36_8
                              try clear hfz6_0
                              try clear hfz6_1
                              try clear hfz6_10
                              try clear hfz6_11
                              try clear hfz6_2
                              try clear hfz6_3
                              try clear hfz6_4
                              try clear hfz6_5
                              try clear hfz6_6
                              try clear hfz6_7
                              try clear hfz6_8
                              try clear hfz6_9
                              try clear hx142_0
                              try clear hx142_1
                              try clear hx142_2
                              try clear hx142_3
                              try clear hx142_4
                              try clear hx142_5
                              try clear hx142_6
                              try clear hx142_7
                              try clear hx142_8
                              try clear p142
                              try clear p2
                              try clear q142
                              obtain ⟨x3_2, x6_2, rfl, HA, HK2, HO_3, BK128, BK143, HB⟩ := hrel
                              cases gk with
                              | zero => exact absurd HA.out (by simp [aviaryref09_Flat.l1])
                              | succ k2 =>
                                have H := HA.out
                                clear HA
                                simp only [aviaryref09_Flat.l1] at H
                                by_cases c38 : x6_2 < (((rd_T59 l0_9 x4_1).f7).length : Int)
                                · rw [if_pos c38] at H
                                  have c38b0 : decide (x6_2 < (((rd_T59 l0_9 x4_1).f7).length : Int)) = true := decide_eq_true c38
                                  clear c38
                                  by_cases c39 : 0 ≤ x6_2
                                  · rw [if_pos c39] at H
                                    have c39b0 : decide (0 ≤ x6_2) = true := decide_eq_true c39
                                    clear c39
                                    by_cases c40 : x3_2.length + (rd_L2 ((rd_T59 l0_9 x4_1).f7) x6_2).length < 140737488355328
                                    · rw [if_pos c40] at H
                                      have LMc40 := Aside0.mk c40
                                      clear c40
                                      obtain ⟨y166, hy166⟩ : ∃ y_ : List Int, y_ = (x3_2 ++ (rd_L2 ((rd_T59 l0_9 x4_1).f7) x6_2)) := ⟨_, rfl⟩
                                      replace H : (if x6_2 < (((rd_T59 l0_9 x4_1).f8).length : Int) then (if y166.length + (rd_L2 ((rd_T59 l0_9 x4_1).f8) x6_2).length < 140737488355328 then (aviaryref09_Flat.l1 k2 (y166 ++ (rd_L2 ((rd_T59 l0_9 x4_1).f8) x6_2)) x4_1 (wrap64 (x6_2 + 1)) a0_0 a0_1 a0_2 a0_3 a0_4 a0_5 a0_6 a0_7 l0_8 l0_9 l0_10 l0_11 ((rd_T59 l0_9 x4_1).f0) ((rd_T59 l0_9 x4_1).f1) ((rd_T59 l0_9 x4_1).f2) ((rd_T59 l0_9 x4_1).f3) ((rd_T59 l0_9 x4_1).f4) ((rd_T59 l0_9 x4_1).f5) ((rd_T59 l0_9 x4_1).f6) ((rd_T59 l0_9 x4_1).f7) ((rd_T59 l0_9 x4_1).f8)) else (none)) else (none)) = some r := by first | (rw [hy166]; with_reducible exact H) | (have H2_ := (Option.bind_some _ _).symm.trans H; rw [hy166]; with_reducible exact H2_) | (have H2_ := (Option.bind_some _ _).symm.trans H; with_reducible exact H2_) | with_reducible exact H | (rw [hy166]; exact H) | exact H
                                      have Ny166 := Aside0.mk hy166
                                      clear hy166
                                      by_cases c41 : x6_2 < (((rd_T59 l0_9 x4_1).f8).length : Int)
                                      · rw [if_pos c41] at H
                                        have c41b0 : decide (x6_2 < (((rd_T59 l0_9 x4_1).f8).length : Int)) = true := decide_eq_true c41
                                        clear c41
                                        by_cases c42 : y166.length + (rd_L2 ((rd_T59 l0_9 x4_1).f8) x6_2).length < 140737488355328
                                        · rw [if_pos c42] at H
                                          have LMc42 := Aside0.mk c42
                                          clear c42
                                          obtain ⟨y170, hy170⟩ : ∃ y_ : List Int, y_ = (y166 ++ (rd_L2 ((rd_T59 l0_9 x4_1).f8) x6_2)) := ⟨_, rfl⟩
                                          replace H : (aviaryref09_Flat.l1 k2 y170 x4_1 (wrap64 (x6_2 + 1)) a0_0 a0_1 a0_2 a0_3 a0_4 a0_5 a0_6 a0_7 l0_8 l0_9 l0_10 l0_11 ((rd_T59 l0_9 x4_1).f0) ((rd_T59 l0_9 x4_1).f1) ((rd_T59 l0_9 x4_1).f2) ((rd_T59 l0_9 x4_1).f3) ((rd_T59 l0_9 x4_1).f4) ((rd_T59 l0_9 x4_1).f5) ((rd_T59 l0_9 x4_1).f6) ((rd_T59 l0_9 x4_1).f7) ((rd_T59 l0_9 x4_1).f8)) = some r := by first | (rw [hy170]; with_reducible exact H) | (have H2_ := (Option.bind_some _ _).symm.trans H; rw [hy170]; with_reducible exact H2_) | (have H2_ := (Option.bind_some _ _).symm.trans H; with_reducible exact H2_) | with_reducible exact H | (rw [hy170]; exact H) | exact H
                                          have Ny170 := Aside0.mk hy170
                                          clear hy170
                                          have H' := Aside0.mk H
                                          clear H
                                          have hnb43 := NB143_128.out
                                          have hnc43 := NB128_143.out
                                          have hcz44_0 : wr.cell? ⟨gb143, 0, none⟩ = some (.slice A142_0 ((rd_T59 l0_9 x4_1).f0).length c142_0) := (blk_cell BK143.out 0).trans rfl
                                          have hcz44_1 : wr.cell? ⟨gb143, 1, none⟩ = some (.slice A142_1 ((rd_T59 l0_9 x4_1).f1).length c142_1) := (blk_cell BK143.out 1).trans rfl
                                          have hcz44_2 : wr.cell? ⟨gb143, 2, none⟩ = some (.slice A142_2 ((rd_T59 l0_9 x4_1).f2).length c142_2) := (blk_cell BK143.out 2).trans rfl
                                          have hcz44_3 : wr.cell? ⟨gb143, 3, none⟩ = some (.slice A142_3 ((rd_T59 l0_9 x4_1).f3).length c142_3) := (blk_cell BK143.out 3).trans rfl
                                          have hcz44_4 : wr.cell? ⟨gb143, 4, none⟩ = some (.slice A142_4 ((rd_T59 l0_9 x4_1).f4).length c142_4) := (blk_cell BK143.out 4).trans rfl
                                          have hcz44_5 : wr.cell? ⟨gb143, 5, none⟩ = some (.slice A142_5 ((rd_T59 l0_9 x4_1).f5).length c142_5) := (blk_cell BK143.out 5).trans rfl
                                          have hcz44_6 : wr.cell? ⟨gb143, 6, none⟩ = some (.slice A142_6 ((rd_T59 l0_9 x4_1).f6).length c142_6) := (blk_cell BK143.out 6).trans rfl
                                          have hcz44_7 : wr.cell? ⟨gb143, 7, none⟩ = some (.slice A142_7 ((rd_T59 l0_9 x4_1).f7).length c142_7) := (blk_cell BK143.out 7).trans rfl
                                          have hcz44_8 : wr.cell? ⟨gb143, 8, none⟩ = some (.slice A142_8 ((rd_T59 l0_9 x4_1).f8).length c142_8) := (blk_cell BK143.out 8).trans rfl
                                          have hfz44_0 := blk_frozen BK143.out 0
                                          have hfz44_1 := blk_frozen BK143.out 1
                                          have hfz44_2 := blk_frozen BK143.out 2
                                          have hfz44_3 := blk_frozen BK143.out 3
                                          have hfz44_4 := blk_frozen BK143.out 4
                                          have hfz44_5 := blk_frozen BK143.out 5
                                          have hfz44_6 := blk_frozen BK143.out 6
                                          have hfz44_7 := blk_frozen BK143.out 7
                                          have hfz44_8 := blk_frozen BK143.out 8
                                          have p165 : 0 ≤ (x6_2 : Int) := of_decide_eq_true (by first | (with_reducible assumption) | assumption)
                                          have q165 : x6_2 < (((rd_T59 l0_9 x4_1).f7).length : Int) := of_decide_eq_true (by first | (with_reducible assumption) | assumption)
                                          obtain ⟨ad165, A165_0, c165_0, e165, hx165_0, hl165_0, hi165_0⟩ := at_L2 HR142_7.out x6_2 p165 q165
                                          cases e165
                                          replace hx165_0 := (HB.out.cell (World.block_lt_of_cell? w _ hx165_0)).trans hx165_0
                                          have HR165_0 := Aside0.mk hi165_0
                                          have HC165_0 := Aside0.mk hl165_0
                                          clear hi165_0 hl165_0
                                          replace p165 := eq_true p165
                                          replace q165 := eq_true q165
                                          go_wp2_with (first | ((with_reducible refine gate_builtin (b := .append) (xs := #[.tmp 61, .tmp 66]) rfl ?_); at_builtin; refine Kd.R_append_rows (Kd.int .i8) (w0 := w) w.heap.size rfl (.tmp 61) (.tmp 66) 26 46 (.int .i8 0) 1 rfl Try.underlying26 info46 rfl (by decide) (by omega) u3 x3_2 (rd_L2 ((rd_T59 l0_9 x4_1).f7) x6_2) _ _ _ (fun _ => True) (fun _ => False) rfl rfl ?aO ?aR (fun _ _ h => h) (fun _ h => h.elim) ?aF ?aB ?aS ?aL ?_; (case aR => repeat (first | exact (Kd.C_below HR165_0.out HB.out) | (with_reducible refine Kd.C_alloc ?_ _) | (with_reducible refine Kd.C_drewN ?_ _) | (with_reducible refine Kd.C_drew ?_))); (case aB => exact by_); (case aF => exact (fun _ _ => trivial)); (case aO => exact (by (with_reducible repeat (first | apply Kd.R_alloc | apply Kd.R_drewN | apply Kd.R_drew)); exact HO_3.out)); (case aS => exact (below_size by_)); (case aL => have := LMc40.out; omega); intro v167 w45 ho hb hg hat; rw [← Ny166.out] at ho; have n0_ := Aside0.mk (blk_grown (g := gb128) (o := .cells #[.int .i64 a0_0, .int .i64 a0_1, .int .i64 a0_2, .int .i64 a0_3, .int .i64 a0_4, .int .i64 a0_5, .int .i64 a0_6, .int .i64 a0_7, .slice A0_8 l0_8.length c0_8, .slice (some ad142) l0_9.length c0_9, .slice A0_10 l0_10.length c0_10, .slice A0_11 l0_11.length c0_11] 29 (0, 0)) (bkl_ BK128.out) hg (Kd.R_ne HO_3.out BK128.out (by decide))); have n1_ := Aside0.mk (blk_grown (g := gb143) (o := .cells #[.slice A142_0 ((rd_T59 l0_9 x4_1).f0).length c142_0, .slice A142_1 ((rd_T59 l0_9 x4_1).f1).length c142_1, .slice A142_2 ((rd_T59 l0_9 x4_1).f2).length c142_2, .slice A142_3 ((rd_T59 l0_9 x4_1).f3).length c142_3, .slice A142_4 ((rd_T59 l0_9 x4_1).f4).length c142_4, .slice A142_5 ((rd_T59 l0_9 x4_1).f5).length c142_5, .slice A142_6 ((rd_T59 l0_9 x4_1).f6).length c142_6, .slice (some ad165) ((rd_T59 l0_9 x4_1).f7).length c142_7, .slice A142_8 ((rd_T59 l0_9 x4_1).f8).length c142_8] 59 (0, 0)) (bkl_ BK143.out) hg (Kd.R_ne HO_3.out BK143.out (by decide))); have n2_ := Aside0.mk (hb); have n3_ := Aside0.mk (ho); clear BK128; clear BK143; clear HB; clear HO_3; have BK128 := n0_; have BK143 := n1_; have HB := n2_; have HO168 := n3_; clear n0_ n1_ n2_ n3_; clear ho hb hg hat; have hcz46_0 : w45.cell? ⟨gb143, 0, none⟩ = some (.slice A142_0 ((rd_T59 l0_9 x4_1).f0).length c142_0) := (blk_cell BK143.out 0).trans rfl; have hcz46_1 : w45.cell? ⟨gb143, 1, none⟩ = some (.slice A142_1 ((rd_T59 l0_9 x4_1).f1).length c142_1) := (blk_cell BK143.out 1).trans rfl; have hcz46_2 : w45.cell? ⟨gb143, 2, none⟩ = some (.slice A142_2 ((rd_T59 l0_9 x4_1).f2).length c142_2) := (blk_cell BK143.out 2).trans rfl; have hcz46_3 : w45.cell? ⟨gb143, 3, none⟩ = some (.slice A142_3 ((rd_T59 l0_9 x4_1).f3).length c142_3) := (blk_cell BK143.out 3).trans rfl; have hcz46_4 : w45.cell? ⟨gb143, 4, none⟩ = some (.slice A142_4 ((rd_T59 l0_9 x4_1).f4).length c142_4) := (blk_cell BK143.out 4).trans rfl; have hcz46_5 : w45.cell? ⟨gb143, 5, none⟩ = some (.slice A142_5 ((rd_T59 l0_9 x4_1).f5).length c142_5) := (blk_cell BK143.out 5).trans rfl; have hcz46_6 : w45.cell? ⟨gb143, 6, none⟩ = some (.slice A142_6 ((rd_T59 l0_9 x4_1).f6).length c142_6) := (blk_cell BK143.out 6).trans rfl; have hcz46_7 : w45.cell? ⟨gb143, 7, none⟩ = some (.slice (some ad165) ((rd_T59 l0_9 x4_1).f7).length c142_7) := (blk_cell BK143.out 7).trans rfl; have hcz46_8 : w45.cell? ⟨gb143, 8, none⟩ = some (.slice A142_8 ((rd_T59 l0_9 x4_1).f8).length c142_8) := (blk_cell BK143.out 8).trans rfl; have hfz46_0 := blk_frozen BK143.out 0; have hfz46_1 := blk_frozen BK143.out 1; have hfz46_2 := blk_frozen BK143.out 2; have hfz46_3 := blk_frozen BK143.out 3; have hfz46_4 := blk_frozen BK143.out 4; have hfz46_5 := blk_frozen BK143.out 5; have hfz46_6 := blk_frozen BK143.out 6; have hfz46_7 := blk_frozen BK143.out 7; have hfz46_8 := blk_frozen BK143.out 8; have p169 : 0 ≤ (x6_2 : Int) := of_decide_eq_true (by first | (with_reducible assumption) | assumption); have q169 : x6_2 < (((rd_T59 l0_9 x4_1).f8).length : Int) := of_decide_eq_true (by first | (with_reducible assumption) | assumption); obtain ⟨ad169, A169_0, c169_0, e169, hx169_0, hl169_0, hi169_0⟩ := at_L2 HR142_8.out x6_2 p169 q169; cases e169; replace hx169_0 := (HB.out.cell (World.block_lt_of_cell? w _ hx169_0)).trans hx169_0; have HR169_0 := Aside0.mk hi169_0; have HC169_0 := Aside0.mk hl169_0; clear hi169_0 hl169_0; replace p169 := eq_true p169; replace q169 := eq_true q169) | ((with_reducible refine gate_builtin (b := .append) (xs := #[.tmp 68, .tmp 73]) rfl ?_); at_builtin; refine Kd.R_append_rows (Kd.int .i8) (w0 := w) w.heap.size rfl (.tmp 68) (.tmp 73) 26 46 (.int .i8 0) 1 rfl Try.underlying26 info46 rfl (by decide) (by omega) v167 y166 (rd_L2 ((rd_T59 l0_9 x4_1).f8) x6_2) _ _ _ (fun _ => True) (fun _ => False) rfl rfl ?aO ?aR (fun _ _ h => h) (fun _ h => h.elim) ?aF ?aB ?aS ?aL ?_; (case aR => repeat (first | exact (Kd.C_below HR169_0.out HB.out) | (with_reducible refine Kd.C_alloc ?_ _) | (with_reducible refine Kd.C_drewN ?_ _) | (with_reducible refine Kd.C_drew ?_))); (case aB => exact by_); (case aF => exact (fun _ _ => trivial)); (case aO => exact (by (with_reducible repeat (first | apply Kd.R_alloc | apply Kd.R_drewN | apply Kd.R_drew)); exact HO168.out)); (case aS => exact (below_size by_)); (case aL => have := LMc42.out; omega); intro v171 w47 ho hb hg hat; rw [← Ny170.out] at ho; have n0_ := Aside0.mk (blk_grown (g := gb128) (o := .cells #[.int .i64 a0_0, .int .i64 a0_1, .int .i64 a0_2, .int .i64 a0_3, .int .i64 a0_4, .int .i64 a0_5, .int .i64 a0_6, .int .i64 a0_7, .slice A0_8 l0_8.length c0_8, .slice (some ad142) l0_9.length c0_9, .slice A0_10 l0_10.length c0_10, .slice A0_11 l0_11.length c0_11] 29 (0, 0)) (bkl_ BK128.out) hg (Kd.R_ne HO168.out BK128.out (by decide))); have n1_ := Aside0.mk (blk_grown (g := gb143) (o := .cells #[.slice A142_0 ((rd_T59 l0_9 x4_1).f0).length c142_0, .slice A142_1 ((rd_T59 l0_9 x4_1).f1).length c142_1, .slice A142_2 ((rd_T59 l0_9 x4_1).f2).length c142_2, .slice A142_3 ((rd_T59 l0_9 x4_1).f3).length c142_3, .slice A142_4 ((rd_T59 l0_9 x4_1).f4).length c142_4, .slice A142_5 ((rd_T59 l0_9 x4_1).f5).length c142_5, .slice A142_6 ((rd_T59 l0_9 x4_1).f6).length c142_6, .slice (some ad165) ((rd_T59 l0_9 x4_1).f7).length c142_7, .slice (some ad169) ((rd_T59 l0_9 x4_1).f8).length c142_8] 59 (0, 0)) (bkl_ BK143.out) hg (Kd.R_ne HO168.out BK143.out (by decide))); have n2_ := Aside0.mk (hb); have n3_ := Aside0.mk (ho); clear BK128; clear BK143; clear HB; clear HO168; have BK128 := n0_; have BK143 := n1_; have HB := n2_; have HO172 := n3_; clear n0_ n1_ n2_ n3_; clear ho hb hg hat))
                                          go_roundg k2
                                          case measure => have := HK1.out; have := HK2.out; omega
                                          case rel => exact ⟨(y170), (wrap64 (x6_2 + 1)), (by first | rfl | (simp; done) | (simp [*]; done)), H', ⟨by have := HK1.out; have := HK2.out; omega⟩, ⟨by (with_reducible repeat (first | apply Kd.R_alloc | apply Kd.R_drewN | apply Kd.R_drew)); exact HO172.out⟩, ⟨by (with_reducible repeat (first | refine blk_drewN ?_ _ | refine blk_drew ?_ | refine blk_alloc ?_ _)); exact BK128.out⟩, ⟨by (with_reducible repeat (first | refine blk_drewN ?_ _ | refine blk_drew ?_ | refine blk_alloc ?_ _)); exact BK143.out⟩, ⟨by repeat (first | (with_reducible first | exact HB.out | apply below_alloc | apply pw_below_drewN | apply below_drew1 | refine below_set ?_ GE128.out | refine below_set ?_ GE143.out) | exact HB.out)⟩⟩
                                        · rw [if_neg c42] at H
                                          exact absurd H (by simp)
                                      · rw [if_neg c41] at H
                                        exact absurd H (by simp)
                                    · rw [if_neg c40] at H
                                      exact absurd H (by simp)
                                  · rw [if_neg c39] at H
                                    exact absurd H (by simp)
                                · rw [if_neg c38] at H
                                  have c38b0 : decide (x6_2 < (((rd_T59 l0_9 x4_1).f7).length : Int)) = false := decide_eq_false c38
                                  clear c38
                                  have H' := Aside0.mk H
                                  clear H
                                  have hnb48 := NB143_128.out
                                  have hnc48 := NB128_143.out
                                  have hcz49_0 : wr.cell? ⟨gb143, 0, none⟩ = some (.slice A142_0 ((rd_T59 l0_9 x4_1).f0).length c142_0) := (blk_cell BK143.out 0).trans rfl
                                  have hcz49_1 : wr.cell? ⟨gb143, 1, none⟩ = some (.slice A142_1 ((rd_T59 l0_9 x4_1).f1).length c142_1) := (blk_cell BK143.out 1).trans rfl
                                  have hcz49_2 : wr.cell? ⟨gb143, 2, none⟩ = some (.slice A142_2 ((rd_T59 l0_9 x4_1).f2).length c142_2) := (blk_cell BK143.out 2).trans rfl
                                  have hcz49_3 : wr.cell? ⟨gb143, 3, none⟩ = some (.slice A142_3 ((rd_T59 l0_9 x4_1).f3).length c142_3) := (blk_cell BK143.out 3).trans rfl
                                  have hcz49_4 : wr.cell? ⟨gb143, 4, none⟩ = some (.slice A142_4 ((rd_T59 l0_9 x4_1).f4).length c142_4) := (blk_cell BK143.out 4).trans rfl
                                  have hcz49_5 : wr.cell? ⟨gb143, 5, none⟩ = some (.slice A142_5 ((rd_T59 l0_9 x4_1).f5).length c142_5) := (blk_cell BK143.out 5).trans rfl
                                  have hcz49_6 : wr.cell? ⟨gb143, 6, none⟩ = some (.slice A142_6 ((rd_T59 l0_9 x4_1).f6).length c142_6) := (blk_cell BK143.out 6).trans rfl
                                  have hcz49_7 : wr.cell? ⟨gb143, 7, none⟩ = some (.slice A142_7 ((rd_T59 l0_9 x4_1).f7).length c142_7) := (blk_cell BK143.out 7).trans rfl
                                  have hcz49_8 : wr.cell? ⟨gb143, 8, none⟩ = some (.slice A142_8 ((rd_T59 l0_9 x4_1).f8).length c142_8) := (blk_cell BK143.out 8).trans rfl
                                  have hfz49_0 := blk_frozen BK143.out 0
                                  have hfz49_1 := blk_frozen BK143.out 1
                                  have hfz49_2 := blk_frozen BK143.out 2
                                  have hfz49_3 := blk_frozen BK143.out 3
                                  have hfz49_4 := blk_frozen BK143.out 4
                                  have hfz49_5 := blk_frozen BK143.out 5
                                  have hfz49_6 := blk_frozen BK143.out 6
                                  have hfz49_7 := blk_frozen BK143.out 7
                                  have hfz49_8 := blk_frozen BK143.out 8
                                  go_wp2
                                  go_roundg k2
                                  case measure => have := HK1.out; have := HK2.out; omega
                                  case rel => exact ⟨(x3_2), (wrap64 (x4_1 + 1)), (by first | rfl | (simp; done) | (simp [*]; done)), H', ⟨by have := HK1.out; have := HK2.out; omega⟩, ⟨by (with_reducible repeat (first | apply Kd.R_alloc | apply Kd.R_drewN | apply Kd.R_drew)); exact HO_3.out⟩, ⟨by (with_reducible repeat (first | refine blk_drewN ?_ _ | refine blk_drew ?_ | refine blk_alloc ?_ _)); exact BK128.out⟩, ⟨by repeat (first | (with_reducible first | exact HB.out | apply below_alloc | apply pw_below_drewN | apply below_drew1 | refine below_set ?_ GE128.out | refine below_set ?_ GE143.out) | exact HB.out)⟩⟩
                          · rw [if_neg c20] at H
                            exact absurd H (by simp)
                        · rw [if_neg c19] at H
                          exact absurd H (by simp)
                      · rw [if_neg c18] at H
                        exact absurd H (by simp)
                    · rw [if_neg c17] at H
                      exact absurd H (by simp)
                  · rw [if_neg c16] at H
                    exact absurd H (by simp)
                · rw [if_neg c15] at H
                  exact absurd H (by simp)
              · rw [if_neg c14] at H
                exact absurd H (by simp)
            · rw [if_neg c13] at H
              exact absurd H (by simp)
          · rw [if_neg c12] at H
            have c12b0 : decide (x4_1 < (l0_9.length : Int)) = false := decide_eq_false c12
            clear c12
            by_cases c50 : x3_1.length + l0_10.length < 140737488355328
            · rw [if_pos c50] at H
              have LMc50 := Aside0.mk c50
              clear c50
              obtain ⟨y136, hy136⟩ : ∃ y_ : List Int, y_ = (x3_1 ++ l0_10) := ⟨_, rfl⟩
              replace H : (if y136.length + l0_11.length < 140737488355328 then (some (y136 ++ l0_11)) else (none)) = some r := by first | (rw [hy136]; with_reducible exact H) | (have H2_ := (Option.bind_some _ _).symm.trans H; rw [hy136]; with_reducible exact H2_) | (have H2_ := (Option.bind_some _ _).symm.trans H; with_reducible exact H2_) | with_reducible exact H | (rw [hy136]; exact H) | exact H
              have Ny136 := Aside0.mk hy136
              clear hy136
              by_cases c51 : y136.length + l0_11.length < 140737488355328
              · rw [if_pos c51] at H
                have LMc51 := Aside0.mk c51
                clear c51
                obtain ⟨y139, hy139⟩ : ∃ y_ : List Int, y_ = (y136 ++ l0_11) := ⟨_, rfl⟩
                replace H : (some y139) = some r := by first | (rw [hy139]; with_reducible exact H) | (have H2_ := (Option.bind_some _ _).symm.trans H; rw [hy139]; with_reducible exact H2_) | (have H2_ := (Option.bind_some _ _).symm.trans H; with_reducible exact H2_) | with_reducible exact H | (rw [hy139]; exact H) | exact H
                have Ny139 := Aside0.mk hy139
                clear hy139
                obtain rfl := Option.some.inj H
                have hcz52_0 : wr.cell? ⟨gb128, 0, none⟩ = some (.int .i64 a0_0) := (blk_cell BK128.out 0).trans rfl
                have hcz52_1 : wr.cell? ⟨gb128, 1, none⟩ = some (.int .i64 a0_1) := (blk_cell BK128.out 1).trans rfl
                have hcz52_2 : wr.cell? ⟨gb128, 2, none⟩ = some (.int .i64 a0_2) := (blk_cell BK128.out 2).trans rfl
                have hcz52_3 : wr.cell? ⟨gb128, 3, none⟩ = some (.int .i64 a0_3) := (blk_cell BK128.out 3).trans rfl
                have hcz52_4 : wr.cell? ⟨gb128, 4, none⟩ = some (.int .i64 a0_4) := (blk_cell BK128.out 4).trans rfl
                have hcz52_5 : wr.cell? ⟨gb128, 5, none⟩ = some (.int .i64 a0_5) := (blk_cell BK128.out 5).trans rfl
                have hcz52_6 : wr.cell? ⟨gb128, 6, none⟩ = some (.int .i64 a0_6) := (blk_cell BK128.out 6).trans rfl
                have hcz52_7 : wr.cell? ⟨gb128, 7, none⟩ = some (.int .i64 a0_7) := (blk_cell BK128.out 7).trans rfl
                have hcz52_8 : wr.cell? ⟨gb128, 8, none⟩ = some (.slice A0_8 l0_8.length c0_8) := (blk_cell BK128.out 8).trans rfl
                have hcz52_9 : wr.cell? ⟨gb128, 9, none⟩ = some (.slice A0_9 l0_9.length c0_9) := (blk_cell BK128.out 9).trans rfl
                have hcz52_10 : wr.cell? ⟨gb128, 10, none⟩ = some (.slice A0_10 l0_10.length c0_10) := (blk_cell BK128.out 10).trans rfl
                have hcz52_11 : wr.cell? ⟨gb128, 11, none⟩ = some (.slice A0_11 l0_11.length c0_11) := (blk_cell BK128.out 11).trans rfl
                have hfz52_0 := blk_frozen BK128.out 0
                have hfz52_1 := blk_frozen BK128.out 1
                have hfz52_2 := blk_frozen BK128.out 2
                have hfz52_3 := blk_frozen BK128.out 3
                have hfz52_4 := blk_frozen BK128.out 4
                have hfz52_5 := blk_frozen BK128.out 5
                have hfz52_6 := blk_frozen BK128.out 6
                have hfz52_7 := blk_frozen BK128.out 7
                have hfz52_8 := blk_frozen BK128.out 8
                have hfz52_9 := blk_frozen BK128.out 9
                have hfz52_10 := blk_frozen BK128.out 10
                have hfz52_11 := blk_frozen BK128.out 11
                go_wp2_with (first | ((with_reducible refine gate_builtin (b := .append) (xs := #[.tmp 75, .tmp 77]) rfl ?_); at_builtin; refine Kd.R_append_rows (Kd.int .i8) (w0 := w) w.heap.size rfl (.tmp 75) (.tmp 77) 26 46 (.int .i8 0) 1 rfl Try.underlying26 info46 rfl (by decide) (by omega) u3 x3_1 l0_10 _ _ _ (fun _ => True) (fun _ => False) rfl rfl ?aO ?aR (fun _ _ h => h) (fun _ h => h.elim) ?aF ?aB ?aS ?aL ?_; (case aR => repeat (first | exact (Kd.C_below HR0_10.out HB.out) | (with_reducible refine Kd.C_alloc ?_ _) | (with_reducible refine Kd.C_drewN ?_ _) | (with_reducible refine Kd.C_drew ?_))); (case aB => exact by_); (case aF => exact (fun _ _ => trivial)); (case aO => exact (by (with_reducible repeat (first | apply Kd.R_alloc | apply Kd.R_drewN | apply Kd.R_drew)); exact HO_3.out)); (case aS => exact (below_size by_)); (case aL => have := LMc50.out; omega); intro v137 w53 ho hb hg hat; rw [← Ny136.out] at ho; have n0_ := Aside0.mk (blk_grown (g := gb128) (o := .cells #[.int .i64 a0_0, .int .i64 a0_1, .int .i64 a0_2, .int .i64 a0_3, .int .i64 a0_4, .int .i64 a0_5, .int .i64 a0_6, .int .i64 a0_7, .slice A0_8 l0_8.length c0_8, .slice A0_9 l0_9.length c0_9, .slice A0_10 l0_10.length c0_10, .slice A0_11 l0_11.length c0_11] 29 (0, 0)) (bkl_ BK128.out) hg (Kd.R_ne HO_3.out BK128.out (by decide))); have n1_ := Aside0.mk (hb); have n2_ := Aside0.mk (ho); clear BK128; clear HB; clear HO_3; have BK128 := n0_; have HB := n1_; have HO138 := n2_; clear n0_ n1_ n2_; clear ho hb hg hat; have hcz54_0 : w53.cell? ⟨gb128, 0, none⟩ = some (.int .i64 a0_0) := (blk_cell BK128.out 0).trans rfl; have hcz54_1 : w53.cell? ⟨gb128, 1, none⟩ = some (.int .i64 a0_1) := (blk_cell BK128.out 1).trans rfl; have hcz54_2 : w53.cell? ⟨gb128, 2, none⟩ = some (.int .i64 a0_2) := (blk_cell BK128.out 2).trans rfl; have hcz54_3 : w53.cell? ⟨gb128, 3, none⟩ = some (.int .i64 a0_3) := (blk_cell BK128.out 3).trans rfl; have hcz54_4 : w53.cell? ⟨gb128, 4, none⟩ = some (.int .i64 a0_4) := (blk_cell BK128.out 4).trans rfl; have hcz54_5 : w53.cell? ⟨gb128, 5, none⟩ = some (.int .i64 a0_5) := (blk_cell BK128.out 5).trans rfl; have hcz54_6 : w53.cell? ⟨gb128, 6, none⟩ = some (.int .i64 a0_6) := (blk_cell BK128.out 6).trans rfl; have hcz54_7 : w53.cell? ⟨gb128, 7, none⟩ = some (.int .i64 a0_7) := (blk_cell BK128.out 7).trans rfl; have hcz54_8 : w53.cell? ⟨gb128, 8, none⟩ = some (.slice A0_8 l0_8.length c0_8) := (blk_cell BK128.out 8).trans rfl; have hcz54_9 : w53.cell? ⟨gb128, 9, none⟩ = some (.slice A0_9 l0_9.length c0_9) := (blk_cell BK128.out 9).trans rfl; have hcz54_10 : w53.cell? ⟨gb128, 10, none⟩ = some (.slice A0_10 l0_10.length c0_10) := (blk_cell BK128.out 10).trans rfl; have hcz54_11 : w53.cell? ⟨gb128, 11, none⟩ = some (.slice A0_11 l0_11.length c0_11) := (blk_cell BK128.out 11).trans rfl; have hfz54_0 := blk_frozen BK128.out 0; have hfz54_1 := blk_frozen BK128.out 1; have hfz54_2 := blk_frozen BK128.out 2; have hfz54_3 := blk_frozen BK128.out 3; have hfz54_4 := blk_frozen BK128.out 4; have hfz54_5 := blk_frozen BK128.out 5; have hfz54_6 := blk_frozen BK128.out 6; have hfz54_7 := blk_frozen BK128.out 7; have hfz54_8 := blk_frozen BK128.out 8; have hfz54_9 := blk_frozen BK128.out 9; have hfz54_10 := blk_frozen BK128.out 10; have hfz54_11 := blk_frozen BK128.out 11) | ((with_reducible refine gate_builtin (b := .append) (xs := #[.tmp 79, .tmp 81]) rfl ?_); at_builtin; refine Kd.R_append_rows (Kd.int .i8) (w0 := w) w.heap.size rfl (.tmp 79) (.tmp 81) 26 46 (.int .i8 0) 1 rfl Try.underlying26 info46 rfl (by decide) (by omega) v137 y136 l0_11 _ _ _ (fun _ => True) (fun _ => False) rfl rfl ?aO ?aR (fun _ _ h => h) (fun _ h => h.elim) ?aF ?aB ?aS ?aL ?_; (case aR => repeat (first | exact (Kd.C_below HR0_11.out HB.out) | (with_reducible refine Kd.C_alloc ?_ _) | (with_reducible refine Kd.C_drewN ?_ _) | (with_reducible refine Kd.C_drew ?_))); (case aB => exact by_); (case aF => exact (fun _ _ => trivial)); (case aO => exact (by (with_reducible repeat (first | apply Kd.R_alloc | apply Kd.R_drewN | apply Kd.R_drew)); exact HO138.out)); (case aS => exact (below_size by_)); (case aL => have := LMc51.out; omega); intro v140 w55 ho hb hg hat; rw [← Ny139.out] at ho; have n0_ := Aside0.mk (blk_grown (g := gb128) (o := .cells #[.int .i64 a0_0, .int .i64 a0_1, .int .i64 a0_2, .int .i64 a0_3, .int .i64 a0_4, .int .i64 a0_5, .int .i64 a0_6, .int .i64 a0_7, .slice A0_8 l0_8.length c0_8, .slice A0_9 l0_9.length c0_9, .slice A0_10 l0_10.length c0_10, .slice A0_11 l0_11.length c0_11] 29 (0, 0)) (bkl_ BK128.out) hg (Kd.R_ne HO138.out BK128.out (by decide))); have n1_ := Aside0.mk (hb); have n2_ := Aside0.mk (ho); clear BK128; clear HB; clear HO138; have BK128 := n0_; have HB := n1_; have HO141 := n2_; clear n0_ n1_ n2_; clear ho hb hg hat))
                go_ret
                exact ⟨_, by first | rfl | (simp [errW_none, errW_some] <;> rfl) | (simp [*, errW_none, errW_some] <;> rfl), by (with_reducible repeat (first | apply Kd.R_alloc | apply Kd.R_drewN | apply Kd.R_drew)); exact HO141.out, by repeat (first | (with_reducible first | exact HB.out | apply below_alloc | apply pw_below_drewN | apply below_drew1 | refine below_set ?_ GE128.out) | exact HB.out)⟩
              · rw [if_neg c51] at H
                exact absurd H (by simp)
            · rw [if_neg c50] at H
              exact absurd H (by simp)
    · rw [if_neg c4] at H
      exact absurd H (by simp)
  · rw [if_neg c3] at H
    have c3b0 : (t129 == 0) = false := beq_eq_false_iff_ne.mpr c3
    have c3b1 : (t129 != 0) = true := bne_iff_ne.mpr c3
    obtain rfl := Option.some.inj H
    go_enter Try.func20, Try.ntmps20
    go_wp2_with (first | ((with_reducible refine gate_dst (N := 1) rfl ?_); refine box_event ?hg (N := 1) ?hd (cs := #[.int .i64 a0_0, .int .i64 a0_1, .int .i64 a0_2, .int .i64 a0_3, .int .i64 a0_4, .int .i64 a0_5, .int .i64 a0_6, .int .i64 a0_7, .slice A0_8 l0_8.length c0_8, .slice A0_9 l0_9.length c0_9, .slice A0_10 l0_10.length c0_10, .slice A0_11 l0_11.length c0_11]) (t := 29) ?hr ?_; (case hd => rfl); (case hg => rfl); (case hr => first | (go_simp; done) | (go_simp; rfl)); intro gb128 hg w56 hbox hb; have n0_ := Aside0.mk (below_step by_ hb); have n1_ := Aside0.mk (hbox); have n2_ := Aside0.mk ((by rw [hg]; exact (below_size by_) : w.heap.size ≤ gb128)); have n3_ := Aside0.mk ((by rw [hg]; exact (below_size by_) : w.heap.size ≤ gb128)); clear HB; have HB := n0_; have BK128 := n1_; have GW128 := n2_; have GE128 := n3_; clear n0_ n1_ n2_ n3_; clear hb hbox hg; have hcz57_0 : w56.cell? ⟨gb128, 0, none⟩ = some (.int .i64 a0_0) := (blk_cell BK128.out 0).trans rfl; have hcz57_1 : w56.cell? ⟨gb128, 1, none⟩ = some (.int .i64 a0_1) := (blk_cell BK128.out 1).trans rfl; have hcz57_2 : w56.cell? ⟨gb128, 2, none⟩ = some (.int .i64 a0_2) := (blk_cell BK128.out 2).trans rfl; have hcz57_3 : w56.cell? ⟨gb128, 3, none⟩ = some (.int .i64 a0_3) := (blk_cell BK128.out 3).trans rfl; have hcz57_4 : w56.cell? ⟨gb128, 4, none⟩ = some (.int .i64 a0_4) := (blk_cell BK128.out 4).trans rfl; have hcz57_5 : w56.cell? ⟨gb128, 5, none⟩ = some (.int .i64 a0_5) := (blk_cell BK128.out 5).trans rfl; have hcz57_6 : w56.cell? ⟨gb128, 6, none⟩ = some (.int .i64 a0_6) := (blk_cell BK128.out 6).trans rfl; have hcz57_7 : w56.cell? ⟨gb128, 7, none⟩ = some (.int .i64 a0_7) := (blk_cell BK128.out 7).trans rfl; have hcz57_8 : w56.cell? ⟨gb128, 8, none⟩ = some (.slice A0_8 l0_8.length c0_8) := (blk_cell BK128.out 8).trans rfl; have hcz57_9 : w56.cell? ⟨gb128, 9, none⟩ = some (.slice A0_9 l0_9.length c0_9) := (blk_cell BK128.out 9).trans rfl; have hcz57_10 : w56.cell? ⟨gb128, 10, none⟩ = some (.slice A0_10 l0_10.length c0_10) := (blk_cell BK128.out 10).trans rfl; have hcz57_11 : w56.cell? ⟨gb128, 11, none⟩ = some (.slice A0_11 l0_11.length c0_11) := (blk_cell BK128.out 11).trans rfl; have hfz57_0 := blk_frozen BK128.out 0; have hfz57_1 := blk_frozen BK128.out 1; have hfz57_2 := blk_frozen BK128.out 2; have hfz57_3 := blk_frozen BK128.out 3; have hfz57_4 := blk_frozen BK128.out 4; have hfz57_5 := blk_frozen BK128.out 5; have hfz57_6 := blk_frozen BK128.out 6; have hfz57_7 := blk_frozen BK128.out 7; have hfz57_8 := blk_frozen BK128.out 8; have hfz57_9 := blk_frozen BK128.out 9; have hfz57_10 := blk_frozen BK128.out 10; have hfz57_11 := blk_frozen BK128.out 11) | ((with_reducible refine gate_callee (f := 17) rfl ?_); refine goesL_ (some 8) rfl rfl Try.func17 (by kernel_rfl) rfl #[.agg #[.int .i64 a0_0, .int .i64 a0_1, .int .i64 a0_2, .int .i64 a0_3, .int .i64 a0_4, .int .i64 a0_5, .int .i64 a0_6, .int .i64 a0_7, .slice A0_8 l0_8.length c0_8, .slice A0_9 l0_9.length c0_9, .slice A0_10 l0_10.length c0_10, .slice A0_11 l0_11.length c0_11]] rfl ar_ ?_; (with_reducible refine (aviaryref09_Check.calls k a0_0 a0_1 a0_2 a0_3 a0_4 a0_5 a0_6 a0_7 _ _ l0_8 _ _ l0_9 _ _ l0_10 _ _ l0_11 t129 _ ?side1 ?side2 ?side3 ?side4 ?side5 ?side6 ?side7 ?side8 A2.out).mono ?_); (case side1 => repeat (first | exact (Kd.C_below HR0_8.out HB.out) | (with_reducible refine Kd.C_alloc ?_ _) | (with_reducible refine Kd.C_drewN ?_ _) | (with_reducible refine Kd.C_drew ?_))); (case side2 => exact HC0_8.out); (case side3 => repeat (first | exact (Kd.C_below HR0_9.out HB.out) | (with_reducible refine Kd.C_alloc ?_ _) | (with_reducible refine Kd.C_drewN ?_ _) | (with_reducible refine Kd.C_drew ?_))); (case side4 => exact HC0_9.out); (case side5 => repeat (first | exact (Kd.C_below HR0_10.out HB.out) | (with_reducible refine Kd.C_alloc ?_ _) | (with_reducible refine Kd.C_drewN ?_ _) | (with_reducible refine Kd.C_drew ?_))); (case side6 => exact HC0_10.out); (case side7 => repeat (first | exact (Kd.C_below HR0_11.out HB.out) | (with_reducible refine Kd.C_alloc ?_ _) | (with_reducible refine Kd.C_drewN ?_ _) | (with_reducible refine Kd.C_drew ?_))); (case side8 => exact HC0_11.out); rintro e w58 ⟨rfl, hb⟩; refine ⟨_, rfl, ?_⟩; have n0_ := Aside0.mk (blk_below (bkl_ BK128.out) hb); have n1_ := Aside0.mk (below_step by_ hb); clear BK128; clear HB; have BK128 := n0_; have HB := n1_; clear n0_ n1_; (try clear hb); (try clear hb2); (try clear hk); (try clear hi)))
    go_ret
    exact ⟨_, by first | rfl | (simp [errW_none, errW_some] <;> rfl) | (simp [*, errW_none, errW_some] <;> rfl), by first | exact Kd.R_nil _ _ _ _ _ | exact Kd.N_nil _ _ _ _ _ | exact Kd.V_nil _ _ _ _ _ | exact Kd.Q_nil _ _ _ _ _ | exact Kd.S_nil _ _ _ _ _, by repeat (first | (with_reducible first | exact HB.out | apply below_alloc | apply pw_below_drewN | apply below_drew1 | refine below_set ?_ GE128.out) | exact HB.out)⟩

/-! ### aviaryref09_numbers: function 38 -/
def aviaryref09_numbers.f (a0_0 : Int) (a0_1 : Int) (a0_2 : Int) (a0_3 : Int) (a0_4 : Int) (a0_5 : Int) (a0_6 : Int) (a0_7 : Int) : Option (List Int) := some (([a0_0, a0_1, a0_2, a0_3, a0_4, a0_5, a0_6, a0_7] : List Int))
set_option maxHeartbeats 8000000 in
set_option maxRecDepth 100000 in
theorem aviaryref09_numbers.calls (a0_0 : Int) (a0_1 : Int) (a0_2 : Int) (a0_3 : Int) (a0_4 : Int) (a0_5 : Int) (a0_6 : Int) (a0_7 : Int) (r : List Int) (w : World) (h : aviaryref09_numbers.f a0_0 a0_1 a0_2 a0_3 a0_4 a0_5 a0_6 a0_7 = some r) :
    Calls Try.prog 38 #[.agg #[.int .i64 a0_0, .int .i64 a0_1, .int .i64 a0_2, .int .i64 a0_3, .int .i64 a0_4, .int .i64 a0_5, .int .i64 a0_6, .int .i64 a0_7]] w fun e w' => ∃ v0_ : Value, e = .returned (v0_) ∧ Kd.R (Kd.int .i64) 3 w' w.heap.size (fun _ => True) v0_ r ∧ Below w.heap.size w w' := by
  have hu23 := Try.underlying23
  have HB := Aside0.mk (Below.refl w.heap.size w)
  have H : (some (([a0_0, a0_1, a0_2, a0_3, a0_4, a0_5, a0_6, a0_7] : List Int))) = some r := h
  clear h
  obtain ⟨y174, hy174⟩ : ∃ y_ : List Int, y_ = (([a0_0, a0_1, a0_2, a0_3, a0_4, a0_5, a0_6, a0_7] : List Int)) := ⟨_, rfl⟩
  replace H : (some y174) = some r := by first | (rw [hy174]; with_reducible exact H) | (have H2_ := (Option.bind_some _ _).symm.trans H; rw [hy174]; with_reducible exact H2_) | (have H2_ := (Option.bind_some _ _).symm.trans H; with_reducible exact H2_) | with_reducible exact H | (rw [hy174]; exact H) | exact H
  have Ny174 := Aside0.mk hy174
  clear hy174
  obtain rfl := Option.some.inj H
  go_enter Try.func38, Try.ntmps38
  go_wp2_with (first | ((with_reducible refine gate_dst (N := 1) rfl ?_); refine box_event ?hg (N := 1) ?hd (cs := #[.int .i64 a0_0, .int .i64 a0_1, .int .i64 a0_2, .int .i64 a0_3, .int .i64 a0_4, .int .i64 a0_5, .int .i64 a0_6, .int .i64 a0_7]) (t := 23) ?hr ?_; (case hd => rfl); (case hg => rfl); (case hr => first | (go_simp; done) | (go_simp; rfl)); intro gb173 hg w2 hbox hb; have n0_ := Aside0.mk (below_step by_ hb); have n1_ := Aside0.mk (hbox); have n2_ := Aside0.mk ((by rw [hg]; exact (below_size by_) : w.heap.size ≤ gb173)); have n3_ := Aside0.mk ((by rw [hg]; exact (below_size by_) : w.heap.size ≤ gb173)); clear HB; have HB := n0_; have BK173 := n1_; have GW173 := n2_; have GE173 := n3_; clear n0_ n1_ n2_ n3_; clear hb hbox hg; have hcz3_0 : w2.cell? ⟨gb173, 0, none⟩ = some (.int .i64 a0_0) := (blk_cell BK173.out 0).trans rfl; have hcz3_1 : w2.cell? ⟨gb173, 1, none⟩ = some (.int .i64 a0_1) := (blk_cell BK173.out 1).trans rfl; have hcz3_2 : w2.cell? ⟨gb173, 2, none⟩ = some (.int .i64 a0_2) := (blk_cell BK173.out 2).trans rfl; have hcz3_3 : w2.cell? ⟨gb173, 3, none⟩ = some (.int .i64 a0_3) := (blk_cell BK173.out 3).trans rfl; have hcz3_4 : w2.cell? ⟨gb173, 4, none⟩ = some (.int .i64 a0_4) := (blk_cell BK173.out 4).trans rfl; have hcz3_5 : w2.cell? ⟨gb173, 5, none⟩ = some (.int .i64 a0_5) := (blk_cell BK173.out 5).trans rfl; have hcz3_6 : w2.cell? ⟨gb173, 6, none⟩ = some (.int .i64 a0_6) := (blk_cell BK173.out 6).trans rfl; have hcz3_7 : w2.cell? ⟨gb173, 7, none⟩ = some (.int .i64 a0_7) := (blk_cell BK173.out 7).trans rfl; have hfz3_0 := blk_frozen BK173.out 0; have hfz3_1 := blk_frozen BK173.out 1; have hfz3_2 := blk_frozen BK173.out 2; have hfz3_3 := blk_frozen BK173.out 3; have hfz3_4 := blk_frozen BK173.out 4; have hfz3_5 := blk_frozen BK173.out 5; have hfz3_6 := blk_frozen BK173.out 6; have hfz3_7 := blk_frozen BK173.out 7) | ((with_reducible refine gate_dst (N := 19) rfl ?_); refine Kd.R_lit (Kd.int .i64) _ 3 ?hg (N := 19) ?hd (xs := ([a0_0, a0_1, a0_2, a0_3, a0_4, a0_5, a0_6, a0_7] : List Int)) (inner := [.int .i64 a0_0, .int .i64 a0_1, .int .i64 a0_2, .int .i64 a0_3, .int .i64 a0_4, .int .i64 a0_5, .int .i64 a0_6, .int .i64 a0_7]) (ok := fun _ => True) (okp := fun _ => True) ?hr ?hp (fun _ hk => hk) trivial (Below.refl _ _) (Nat.le_refl _) (by simp) ?_; (case hd => rfl); (case hg => rfl); (case hr => first | (go_simp; done) | (go_simp; rfl)); (case hp => exact (Reps.one (show Kd.M (Kd.int .i64) _ _ _ a0_0 [.int .i64 a0_0] from rfl) (Reps.one (show Kd.M (Kd.int .i64) _ _ _ a0_1 [.int .i64 a0_1] from rfl) (Reps.one (show Kd.M (Kd.int .i64) _ _ _ a0_2 [.int .i64 a0_2] from rfl) (Reps.one (show Kd.M (Kd.int .i64) _ _ _ a0_3 [.int .i64 a0_3] from rfl) (Reps.one (show Kd.M (Kd.int .i64) _ _ _ a0_4 [.int .i64 a0_4] from rfl) (Reps.one (show Kd.M (Kd.int .i64) _ _ _ a0_5 [.int .i64 a0_5] from rfl) (Reps.one (show Kd.M (Kd.int .i64) _ _ _ a0_6 [.int .i64 a0_6] from rfl) (Reps.one (show Kd.M (Kd.int .i64) _ _ _ a0_7 [.int .i64 a0_7] from rfl) (Reps.none _ _)))))))))); intro v175 w4 ho5 hb hg_ hnew_; clear hg_ hnew_; (first | rw [← Ny174.out] at ho5 | (simp only [Int.reduceToNat] at ho5; rw [← Ny174.out] at ho5)); have n0_ := Aside0.mk (Kd.R_lower ho5 (below_size by_)); have n1_ := Aside0.mk (blk_below (bkl_ BK173.out) hb); have n2_ := Aside0.mk (below_step by_ hb); clear BK173; clear HB; have HO176 := n0_; have BK173 := n1_; have HB := n2_; clear n0_ n1_ n2_; clear hb ho5))
  go_ret
  exact ⟨_, by first | rfl | (simp [errW_none, errW_some] <;> rfl) | (simp [*, errW_none, errW_some] <;> rfl), by (with_reducible repeat (first | apply Kd.R_alloc | apply Kd.R_drewN | apply Kd.R_drew)); exact HO176.out, by repeat (first | (with_reducible first | exact HB.out | apply below_alloc | apply pw_below_drewN | apply below_drew1 | refine below_set ?_ GE173.out) | exact HB.out)⟩

/-! ### aviaryref08_Two: function 39 -/
def aviaryref08_Two.f (a0 : Int) : Option (ByteArray) := some (strOfNums (([(Int.tmod (Int.tmod (wrap64 ((Int.tmod a0 65536) + 65536)) 65536) 256) % 256, (wrap64 (Int.tdiv (Int.tmod (wrap64 ((Int.tmod a0 65536) + 65536)) 65536) 256)) % 256] : List Int)))
set_option maxHeartbeats 8000000 in
set_option maxRecDepth 100000 in
theorem aviaryref08_Two.calls (a0 : Int) (r : ByteArray) (w : World) (h : aviaryref08_Two.f a0 = some r) :
    Calls Try.prog 39 #[.int .i64 a0] w fun e w' => e = .returned (.string r) ∧ Below w.heap.size w w' := by
  have HB := Aside0.mk (Below.refl w.heap.size w)
  have H : (some (strOfNums (([(Int.tmod (Int.tmod (wrap64 ((Int.tmod a0 65536) + 65536)) 65536) 256) % 256, (wrap64 (Int.tdiv (Int.tmod (wrap64 ((Int.tmod a0 65536) + 65536)) 65536) 256)) % 256] : List Int)))) = some r := h
  clear h
  obtain ⟨y177, hy177⟩ : ∃ y_ : List Int, y_ = (([(Int.tmod (Int.tmod (wrap64 ((Int.tmod a0 65536) + 65536)) 65536) 256) % 256, (wrap64 (Int.tdiv (Int.tmod (wrap64 ((Int.tmod a0 65536) + 65536)) 65536) 256)) % 256] : List Int)) := ⟨_, rfl⟩
  replace H : (some (strOfNums y177)) = some r := by first | (rw [hy177]; with_reducible exact H) | (have H2_ := (Option.bind_some _ _).symm.trans H; rw [hy177]; with_reducible exact H2_) | (have H2_ := (Option.bind_some _ _).symm.trans H; with_reducible exact H2_) | with_reducible exact H | (rw [hy177]; exact H) | exact H
  have Ny177 := Aside0.mk hy177
  clear hy177
  obtain rfl := Option.some.inj H
  go_enter Try.func39, Try.ntmps39
  go_wp2_with (first | ((with_reducible refine gate_dst (N := 13) rfl ?_); refine Kd.R_lit (Kd.int .u8) _ 5 ?hg (N := 13) ?hd (xs := ([(Int.tmod (Int.tmod (wrap64 ((Int.tmod a0 65536) + 65536)) 65536) 256) % 256, (wrap64 (Int.tdiv (Int.tmod (wrap64 ((Int.tmod a0 65536) + 65536)) 65536) 256)) % 256] : List Int)) (inner := [.int .u8 ((Int.tmod (Int.tmod (wrap64 ((Int.tmod a0 65536) + 65536)) 65536) 256) % 256), .int .u8 ((wrap64 (Int.tdiv (Int.tmod (wrap64 ((Int.tmod a0 65536) + 65536)) 65536) 256)) % 256)]) (ok := fun _ => True) (okp := fun _ => True) ?hr ?hp (fun _ hk => hk) trivial (Below.refl _ _) (Nat.le_refl _) (by simp) ?_; (case hd => rfl); (case hg => rfl); (case hr => first | (go_simp; done) | (go_simp; rfl)); (case hp => exact (Reps.one (show Kd.M (Kd.int .u8) _ _ _ ((Int.tmod (Int.tmod (wrap64 ((Int.tmod a0 65536) + 65536)) 65536) 256) % 256) [.int .u8 ((Int.tmod (Int.tmod (wrap64 ((Int.tmod a0 65536) + 65536)) 65536) 256) % 256)] from rfl) (Reps.one (show Kd.M (Kd.int .u8) _ _ _ ((wrap64 (Int.tdiv (Int.tmod (wrap64 ((Int.tmod a0 65536) + 65536)) 65536) 256)) % 256) [.int .u8 ((wrap64 (Int.tdiv (Int.tmod (wrap64 ((Int.tmod a0 65536) + 65536)) 65536) 256)) % 256)] from rfl) (Reps.none _ _)))); intro v178 w2 ho3 hb hg_ hnew_; clear hg_ hnew_; (first | rw [← Ny177.out] at ho3 | (simp only [Int.reduceToNat] at ho3; rw [← Ny177.out] at ho3)); have n0_ := Aside0.mk (Kd.R_lower ho3 (below_size by_)); have n1_ := Aside0.mk (below_step by_ hb); clear HB; have HO179 := n0_; have HB := n1_; clear n0_ n1_; clear hb ho3; have hcv4 := own_string (P := Try.prog) Try.underlying49 Try.underlying5 Try.underlying9 (Kd.own_of_R HO179.out)))
  go_ret
  exact ⟨by first | rfl | (simp [errW_none, errW_some] <;> rfl) | (simp [*, errW_none, errW_some] <;> rfl), by repeat (first | (with_reducible first | exact HB.out | apply below_alloc | apply pw_below_drewN | apply below_drew1) | exact HB.out)⟩

/-! ### aviaryref08_Sum: function 60 -/
def aviaryref08_Sum.l0 : Nat → ByteArray → Int → Int → Int → Option (Int)
  | 0, _, _, _, _ => none
  | k + 1, x0, x3, x4, x5 => if x5 < (x0.size : Int) then (if 0 ≤ x5 then (aviaryref08_Sum.l0 k x0 (Int.tmod (wrap64 (x3 + (wrap64 (bt x0 x5)))) 255) (Int.tmod (wrap64 (x4 + (Int.tmod (wrap64 (x3 + (wrap64 (bt x0 x5)))) 255))) 255) (wrap64 (x5 + 1))) else (none)) else (some (wrap64 ((wrap64 (256 * x4)) + x3)))
def aviaryref08_Sum.f (k : Nat) (a0 : ByteArray) : Option (Int) := aviaryref08_Sum.l0 k a0 0 0 0
theorem aviaryref08_Sum.mono_l : ∀ k, (∀ y0 y1 y2 y3, LeO (aviaryref08_Sum.l0 k y0 y1 y2 y3) (aviaryref08_Sum.l0 (k + 1) y0 y1 y2 y3))
  | 0 => fun _ _ _ _ r h => by simp [aviaryref08_Sum.l0] at h
  | k + 1 => by
    have ih0 := aviaryref08_Sum.mono_l k
    · intro y0 y1 y2 y3
      unfold aviaryref08_Sum.l0
      repeat' first
      | (with_reducible exact ih0 _ _ _ _)
      | (with_reducible exact LeO.refl _)
      | (with_reducible exact LeO.none _)
      | (with_reducible refine LeO.ite ?_ ?_)
      | (with_reducible refine LeO.bind ?_ (fun _ => ?_))
      | exact ih0 _ _ _ _
      | exact LeO.none _
      | refine LeO.ite ?_ ?_
      | refine LeO.bind ?_ (fun _ => ?_)
theorem aviaryref08_Sum.mono : ∀ a0 k, LeO (aviaryref08_Sum.f k a0) (aviaryref08_Sum.f (k + 1) a0) := by
  intro a0 k
  have ih0 := aviaryref08_Sum.mono_l k
  unfold aviaryref08_Sum.f
  repeat' first
      | (with_reducible exact ih0 _ _ _ _)
      | (with_reducible exact LeO.refl _)
      | (with_reducible exact LeO.none _)
      | (with_reducible refine LeO.ite ?_ ?_)
      | (with_reducible refine LeO.bind ?_ (fun _ => ?_))
      | exact ih0 _ _ _ _
      | exact LeO.none _
      | refine LeO.ite ?_ ?_
      | refine LeO.bind ?_ (fun _ => ?_)
set_option maxHeartbeats 8000000 in
set_option maxRecDepth 100000 in
theorem aviaryref08_Sum.calls (k : Nat) (a0 : ByteArray) (r : Int) (w : World) (h : aviaryref08_Sum.f k a0 = some r) :
    Calls Try.prog 60 #[.string a0] w fun e w' => e = .returned (.int .i64 r) ∧ Drawn0 w w' := by
  have H : (aviaryref08_Sum.l0 k a0 0 0 0) = some r := h
  clear h
  have H' := Aside0.mk H
  clear H
  go_enter Try.func60, Try.ntmps60
  go_wp2
  go_loopg [3, 4, 5] k (fun kq v3 v4 v5 w' => ∃ (x3_1 : Int) (x4_1 : Int) (x5_1 : Int), v3 = .int .i64 x3_1 ∧ v4 = .int .i64 x4_1 ∧ v5 = .int .i64 x5_1 ∧ Aside0 (aviaryref08_Sum.l0 kq a0 x3_1 x4_1 x5_1 = some r) ∧ Aside0 (kq ≤ k) ∧ Drawn0 w w')
  case atStart => exact ⟨(0), (0), (0), (by first | rfl | (simp; done) | (simp [*]; done)), (by first | rfl | (simp; done) | (simp [*]; done)), (by first | rfl | (simp; done) | (simp [*]; done)), H', ⟨Nat.le_refl _⟩, by repeat (first | exact Drawn0.refl _ | apply Drawn0.step)⟩
  case round =>
    clear H'
    obtain ⟨x3_1, x4_1, x5_1, rfl, rfl, rfl, HA, HK1, ⟨m1, rfl⟩⟩ := hrel
    cases gk with
    | zero => exact absurd HA.out (by simp [aviaryref08_Sum.l0])
    | succ k1 =>
      have H := HA.out
      clear HA
      simp only [aviaryref08_Sum.l0] at H
      by_cases c2 : x5_1 < (a0.size : Int)
      · rw [if_pos c2] at H
        have c2b0 : decide (x5_1 < (a0.size : Int)) = true := decide_eq_true c2
        clear c2
        by_cases c3 : 0 ≤ x5_1
        · rw [if_pos c3] at H
          have c3b0 : decide (0 ≤ x5_1) = true := decide_eq_true c3
          clear c3
          have H' := Aside0.mk H
          clear H
          have p4 : 0 ≤ (x5_1 : Int) := of_decide_eq_true (by first | (with_reducible assumption) | assumption)
          have q4 : x5_1 < (a0.size : Int) := of_decide_eq_true (by first | (with_reducible assumption) | assumption)
          have hx4 := bt_at a0 x5_1
          replace p4 := eq_true p4
          replace q4 := eq_true q4
          go_wp2
          go_roundg k1
          case measure => have := HK1.out; omega
          case rel => exact ⟨(Int.tmod (wrap64 (x3_1 + (wrap64 (bt a0 x5_1)))) 255), (Int.tmod (wrap64 (x4_1 + (Int.tmod (wrap64 (x3_1 + (wrap64 (bt a0 x5_1)))) 255))) 255), (wrap64 (x5_1 + 1)), (by first | rfl | (simp; done) | (simp [*]; done)), (by first | rfl | (simp; done) | (simp [*]; done)), (by first | rfl | (simp; done) | (simp [*]; done)), H', ⟨by have := HK1.out; omega⟩, by repeat (first | exact Drawn0.refl _ | apply Drawn0.step)⟩
        · rw [if_neg c3] at H
          exact absurd H (by simp)
      · rw [if_neg c2] at H
        have c2b0 : decide (x5_1 < (a0.size : Int)) = false := decide_eq_false c2
        clear c2
        obtain rfl := Option.some.inj H
        go_wp2
        go_ret
        exact ⟨by first | rfl | (simp; done) | (simp [*]; done), by repeat (first | exact Drawn0.refl _ | apply Drawn0.step)⟩

/-! ### aviaryref08_Seal: function 40 -/
def aviaryref08_Seal.f (k : Nat) (a0 : ByteArray) : Option (ByteArray) := (aviaryref08_Sum.f k a0).bind fun t180 => ((aviaryref08_Two.f t180).bind fun t181 => (if a0.size + t181.size ≤ 9223372036854775807 then (some (a0 ++ t181)) else (none)))
theorem aviaryref08_Seal.mono : ∀ a0 k, LeO (aviaryref08_Seal.f k a0) (aviaryref08_Seal.f (k + 1) a0) := by
  intro a0 k
  unfold aviaryref08_Seal.f
  repeat' first
      | (with_reducible exact aviaryref08_Sum.mono _ _)
      | (with_reducible exact LeO.refl _)
      | (with_reducible exact LeO.none _)
      | (with_reducible refine LeO.ite ?_ ?_)
      | (with_reducible refine LeO.bind ?_ (fun _ => ?_))
      | exact aviaryref08_Sum.mono _ _
      | exact LeO.none _
      | refine LeO.ite ?_ ?_
      | refine LeO.bind ?_ (fun _ => ?_)
set_option maxHeartbeats 8000000 in
set_option maxRecDepth 100000 in
theorem aviaryref08_Seal.calls (k : Nat) (a0 : ByteArray) (r : ByteArray) (w : World) (h : aviaryref08_Seal.f k a0 = some r) :
    Calls Try.prog 40 #[.string a0] w fun e w' => e = .returned (.string r) ∧ Below w.heap.size w w' := by
  have HB := Aside0.mk (Below.refl w.heap.size w)
  have H : ((aviaryref08_Sum.f k a0).bind fun t180 => ((aviaryref08_Two.f t180).bind fun t181 => (if a0.size + t181.size ≤ 9223372036854775807 then (some (a0 ++ t181)) else (none)))) = some r := h
  clear h
  replace H := Option.bind_eq_some_iff.mp H
  obtain ⟨t180, A20, H⟩ := H
  replace H : ((aviaryref08_Two.f t180).bind fun t181 => (if a0.size + t181.size ≤ 9223372036854775807 then (some (a0 ++ t181)) else (none))) = some r := H
  have A2 := Aside0.mk A20
  clear A20
  replace H := Option.bind_eq_some_iff.mp H
  obtain ⟨t181, A30, H⟩ := H
  replace H : (if a0.size + t181.size ≤ 9223372036854775807 then (some (a0 ++ t181)) else (none)) = some r := H
  have A3 := Aside0.mk A30
  clear A30
  by_cases c4 : a0.size + t181.size ≤ 9223372036854775807
  · rw [if_pos c4] at H
    have c4b0 := eq_true c4
    have c4b1 : decide (a0.size + t181.size ≤ 9223372036854775807) = true := decide_eq_true c4
    try have c4b2 : (9223372036854775807 < a0.size + t181.size) = False := eq_false (Nat.not_lt.2 c4)
    obtain rfl := Option.some.inj H
    go_enter Try.func40, Try.ntmps40
    go_wp2_with (first | ((with_reducible refine gate_callee (f := 60) rfl ?_); refine goesL_ (some 5) rfl rfl Try.func60 (by kernel_rfl) rfl #[.string a0] rfl ar_ ?_; (with_reducible refine (aviaryref08_Sum.calls k a0 t180 _ A2.out).mono ?_); rintro e w' ⟨rfl, ⟨nd, rfl⟩⟩; refine ⟨_, rfl, ?_⟩) | ((with_reducible refine gate_callee (f := 39) rfl ?_); refine goesL_ (some 6) rfl rfl Try.func39 (by kernel_rfl) rfl #[.int .i64 t180] rfl ar_ ?_; (with_reducible refine (aviaryref08_Two.calls t180 t181 _ A3.out).mono ?_); rintro e w5 ⟨rfl, hb⟩; refine ⟨_, rfl, ?_⟩; have n0_ := Aside0.mk (below_step by_ hb); clear HB; have HB := n0_; clear n0_; (try clear hb); (try clear hb2); (try clear hk); (try clear hi)))
    go_ret
    exact ⟨by first | rfl | (simp [errW_none, errW_some] <;> rfl) | (simp [*, errW_none, errW_some] <;> rfl), by repeat (first | (with_reducible first | exact HB.out | apply below_alloc | apply pw_below_drewN | apply below_drew1) | exact HB.out)⟩
  · rw [if_neg c4] at H
    exact absurd H (by simp)

end Go.Proofs.Ytdlinhegmplgiaa.PCkptChecks
