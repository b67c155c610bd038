/- A text of the session: functions of the program and their walks, laid by a program of its own (wip/tools/mkprint.py) over the translation. No condition. -/
import Derived.Test.YtekaiebfgcjddaaPGraftBackx0
import Derived.Test.YtekaiebfgcjddaaPGraftBackx4
import Derived.Test.YtekaiebfgcjddaaPGraftBackx5
import Derived.Test.YtekaiebfgcjddaaPGraftBackx6
import Derived.Test.YtekaiebfgcjddaaPGraftBackx7
import Derived.Test.YtekaiebfgcjddaaPGraftBackx9
import Derived.Test.YtekaiebfgcjddaaPGraftBackx11
namespace Go.Proofs.Ytekaiebfgcjddaa.PGraftBack
open Go.RowKit Go.Proofs.YtekaiebfgcjddaaW.PrintWords Go.Proofs.YtekaiebfgcjddaaW.PrintLast Go.Proofs.YtekaiebfgcjddaaW.PrintMore
attribute [local go_sem] max2_int min2_int max_two min_two max_three min_three max_four min_four   -- for this text's walks alone
set_option linter.unusedVariables false
set_option linter.unusedSimpArgs false

/-! ### aviarylaw10_GraftBack: function 7 -/
mutual
def aviarylaw10_GraftBack.j0 : Nat → ByteArray → Bool → Int → Int → List (S59) → Int → Int → Int → Int → Int → Int → Int → Int → Option (Bool)
  | 0, _, _, _, _, _, _, _, _, _, _, _, _, _ => none
  | k + 1, x2, x27, x263000, x263001, x263002, x264000, x264001, x264002, x264003, x264004, x264005, x264006, x264007 => if x27 = true then (some true) else ((aviarylaw10_Own.f x263000 x263001 x263002).bind fun bt265 => ((graft_Encode.f k bt265.1 bt265.2.1 bt265.2.2 x264000 x264001 x264002 x264003 x264004 x264005 x264006 x264007).bind fun bt270 => (if bt270.2 = 0 then ((graft_Decode.f k bt270.1 x264000 x264001 x264002 x264003 x264004 x264005 x264006 x264007).bind fun bt272 => ((aviarylaw10_Own.f x263000 x263001 x263002).bind fun bt279 => ((graft_Flat.f k bt279.1 bt279.2.1 bt279.2.2 x264000 x264001 x264002 x264003 x264004 x264005 x264006 x264007).bind fun t284 => ((graft_Shape.f k x263000 x263001 x264000 x264001 x264002 x264003 x264004 x264005 x264006 x264007 t284).bind fun bt287 => (if bt272.2.2.2 = 0 then (if bt287.2.2.2 = 0 then ((aviaryref10_Same.f bt272.1 bt272.2.1 bt272.2.2.1 x263000 x263001 x263002).bind fun t294 => (if t294 = true then ((aviaryref10_Same.f bt287.1 bt287.2.1 bt287.2.2.1 x263000 x263001 x263002).bind fun t295 => (if t295 = true then (aviarylaw10_GraftBack.j1 k x2 x264000 x264001 x264002 x264003 x264004 x264005 x264006 x264007) else (none))) else (none))) else (none)) else (none)))))) else (aviarylaw10_GraftBack.j1 k x2 x264000 x264001 x264002 x264003 x264004 x264005 x264006 x264007))))
def aviarylaw10_GraftBack.j1 : Nat → ByteArray → Int → Int → Int → Int → Int → Int → Int → Int → Option (Bool)
  | 0, _, _, _, _, _, _, _, _, _ => none
  | k + 1, x2, x264000, x264001, x264002, x264003, x264004, x264005, x264006, x264007 => (graft_Decode.f k x2 x264000 x264001 x264002 x264003 x264004 x264005 x264006 x264007).bind fun bt296 => (if bt296.2.2.2 = 0 then ((graft_Encode.f k bt296.1 bt296.2.1 bt296.2.2.1 x264000 x264001 x264002 x264003 x264004 x264005 x264006 x264007).bind fun bt303 => (if bt303.2 = 0 then (some (bt303.1.toList == x2.toList)) else (none))) else (if bt296.2.2.2 = 1 then (some (bt296.1 == 0)) else (none)))
end
def aviarylaw10_GraftBack.f (k : Nat) (a0_0 : Int) (a0_1 : Int) (l0_2 : List (S59)) (a1_0 : Int) (a1_1 : Int) (a1_2 : Int) (a1_3 : Int) (a1_4 : Int) (a1_5 : Int) (a1_6 : Int) (a1_7 : Int) (a2 : ByteArray) : Option (Bool) := (aviarylaw10_works.f k).bind fun t264 => (if t264 = true then (if (l0_2.length : Int) > 20 then (aviarylaw10_GraftBack.j0 k a2 true a0_0 a0_1 l0_2 a1_0 a1_1 a1_2 a1_3 a1_4 a1_5 a1_6 a1_7) else (aviarylaw10_GraftBack.j0 k a2 (decide ((a2.size : Int) > 40000)) a0_0 a0_1 l0_2 a1_0 a1_1 a1_2 a1_3 a1_4 a1_5 a1_6 a1_7)) else (none))
theorem aviarylaw10_GraftBack.mono_l : ∀ k, (∀ y0 y1 y2 y3 y4 y5 y6 y7 y8 y9 y10 y11 y12, LeO (aviarylaw10_GraftBack.j0 k y0 y1 y2 y3 y4 y5 y6 y7 y8 y9 y10 y11 y12) (aviarylaw10_GraftBack.j0 (k + 1) y0 y1 y2 y3 y4 y5 y6 y7 y8 y9 y10 y11 y12)) ∧ (∀ y0 y1 y2 y3 y4 y5 y6 y7 y8, LeO (aviarylaw10_GraftBack.j1 k y0 y1 y2 y3 y4 y5 y6 y7 y8) (aviarylaw10_GraftBack.j1 (k + 1) y0 y1 y2 y3 y4 y5 y6 y7 y8))
  | 0 => ⟨fun _ _ _ _ _ _ _ _ _ _ _ _ _ r h => by simp [aviarylaw10_GraftBack.j0] at h, fun _ _ _ _ _ _ _ _ _ r h => by simp [aviarylaw10_GraftBack.j1] at h⟩
  | k + 1 => by
    obtain ⟨ih0, ih1⟩ := aviarylaw10_GraftBack.mono_l k
    refine ⟨?_, ?_⟩
    · intro y0 y1 y2 y3 y4 y5 y6 y7 y8 y9 y10 y11 y12
      unfold aviarylaw10_GraftBack.j0
      repeat' first
      | (with_reducible exact ih0 _ _ _ _ _ _ _ _ _ _ _ _ _)
      | (with_reducible exact ih1 _ _ _ _ _ _ _ _ _)
      | (with_reducible exact aviarylaw10_works.mono _)
      | (with_reducible exact graft_Decode.mono _ _ _ _ _ _ _ _ _ _)
      | (with_reducible exact graft_Encode.mono _ _ _ _ _ _ _ _ _ _ _ _)
      | (with_reducible exact graft_Flat.mono _ _ _ _ _ _ _ _ _ _ _ _)
      | (with_reducible exact graft_Shape.mono _ _ _ _ _ _ _ _ _ _ _ _)
      | (with_reducible exact LeO.refl _)
      | (with_reducible exact LeO.none _)
      | (with_reducible refine LeO.ite ?_ ?_)
      | (with_reducible refine LeO.bind ?_ (fun _ => ?_))
      | exact ih0 _ _ _ _ _ _ _ _ _ _ _ _ _
      | exact ih1 _ _ _ _ _ _ _ _ _
      | exact aviarylaw10_works.mono _
      | exact graft_Decode.mono _ _ _ _ _ _ _ _ _ _
      | exact graft_Encode.mono _ _ _ _ _ _ _ _ _ _ _ _
      | exact graft_Flat.mono _ _ _ _ _ _ _ _ _ _ _ _
      | exact graft_Shape.mono _ _ _ _ _ _ _ _ _ _ _ _
      | exact LeO.none _
      | refine LeO.ite ?_ ?_
      | refine LeO.bind ?_ (fun _ => ?_)
    · intro y0 y1 y2 y3 y4 y5 y6 y7 y8
      unfold aviarylaw10_GraftBack.j1
      repeat' first
      | (with_reducible exact ih0 _ _ _ _ _ _ _ _ _ _ _ _ _)
      | (with_reducible exact ih1 _ _ _ _ _ _ _ _ _)
      | (with_reducible exact aviarylaw10_works.mono _)
      | (with_reducible exact graft_Decode.mono _ _ _ _ _ _ _ _ _ _)
      | (with_reducible exact graft_Encode.mono _ _ _ _ _ _ _ _ _ _ _ _)
      | (with_reducible exact graft_Flat.mono _ _ _ _ _ _ _ _ _ _ _ _)
      | (with_reducible exact graft_Shape.mono _ _ _ _ _ _ _ _ _ _ _ _)
      | (with_reducible exact LeO.refl _)
      | (with_reducible exact LeO.none _)
      | (with_reducible refine LeO.ite ?_ ?_)
      | (with_reducible refine LeO.bind ?_ (fun _ => ?_))
      | exact ih0 _ _ _ _ _ _ _ _ _ _ _ _ _
      | exact ih1 _ _ _ _ _ _ _ _ _
      | exact aviarylaw10_works.mono _
      | exact graft_Decode.mono _ _ _ _ _ _ _ _ _ _
      | exact graft_Encode.mono _ _ _ _ _ _ _ _ _ _ _ _
      | exact graft_Flat.mono _ _ _ _ _ _ _ _ _ _ _ _
      | exact graft_Shape.mono _ _ _ _ _ _ _ _ _ _ _ _
      | exact LeO.none _
      | refine LeO.ite ?_ ?_
      | refine LeO.bind ?_ (fun _ => ?_)
theorem aviarylaw10_GraftBack.mono : ∀ a0 a1 a2 a3 a4 a5 a6 a7 a8 a9 a10 a11 k, LeO (aviarylaw10_GraftBack.f k a0 a1 a2 a3 a4 a5 a6 a7 a8 a9 a10 a11) (aviarylaw10_GraftBack.f (k + 1) a0 a1 a2 a3 a4 a5 a6 a7 a8 a9 a10 a11) := by
  intro a0 a1 a2 a3 a4 a5 a6 a7 a8 a9 a10 a11 k
  obtain ⟨ih0, ih1⟩ := aviarylaw10_GraftBack.mono_l k
  unfold aviarylaw10_GraftBack.f
  repeat' first
      | (with_reducible exact ih0 _ _ _ _ _ _ _ _ _ _ _ _ _)
      | (with_reducible exact ih1 _ _ _ _ _ _ _ _ _)
      | (with_reducible exact aviarylaw10_works.mono _)
      | (with_reducible exact graft_Decode.mono _ _ _ _ _ _ _ _ _ _)
      | (with_reducible exact graft_Encode.mono _ _ _ _ _ _ _ _ _ _ _ _)
      | (with_reducible exact graft_Flat.mono _ _ _ _ _ _ _ _ _ _ _ _)
      | (with_reducible exact graft_Shape.mono _ _ _ _ _ _ _ _ _ _ _ _)
      | (with_reducible exact LeO.refl _)
      | (with_reducible exact LeO.none _)
      | (with_reducible refine LeO.ite ?_ ?_)
      | (with_reducible refine LeO.bind ?_ (fun _ => ?_))
      | exact ih0 _ _ _ _ _ _ _ _ _ _ _ _ _
      | exact ih1 _ _ _ _ _ _ _ _ _
      | exact aviarylaw10_works.mono _
      | exact graft_Decode.mono _ _ _ _ _ _ _ _ _ _
      | exact graft_Encode.mono _ _ _ _ _ _ _ _ _ _ _ _
      | exact graft_Flat.mono _ _ _ _ _ _ _ _ _ _ _ _
      | exact graft_Shape.mono _ _ _ _ _ _ _ _ _ _ _ _
      | exact LeO.none _
      | refine LeO.ite ?_ ?_
      | refine LeO.bind ?_ (fun _ => ?_)
def aviarylaw10_GraftBack.T5 : Bool × List (List Nat × List Nat) := (true, [([], []), ([0], [0]), ([], []), ([1, 2, 1], [1, 2]), ([3], [3]), ([4], [4]), ([4], [4]), ([5, 3, 0, 1, 2, 3, 4, 5], [5]), ([6, 7, 0, 1, 2, 3, 4, 5, 6, 7], [6])])
def aviarylaw10_GraftBack.B5 : List Nat := [0, 1, 0, 7, 15, 31, 31, 63, 255]
theorem aviarylaw10_GraftBack.tab5 : rtab .any (opsOf Try.f7 5) = aviarylaw10_GraftBack.T5 := by kernel_rfl
theorem aviarylaw10_GraftBack.bits5 : waitsOk aviarylaw10_GraftBack.T5.2 aviarylaw10_GraftBack.B5 = true := by kernel_rfl
def aviarylaw10_GraftBack.T8 : Bool × List (List Nat × List Nat) := (true, [([], []), ([0], [0]), ([], []), ([2], [2]), ([], []), ([], []), ([5], [5]), ([], []), ([6, 7, 6], [6, 7]), ([1, 3, 4, 8, 8], [1, 3, 4, 8]), ([9], [9]), ([10], [10]), ([10], [10]), ([], []), ([13, 11, 9, 0, 1, 2, 3, 4, 5, 6, 7, 8, 9, 10, 11, 13], [11, 13]), ([12, 14, 0, 1, 2, 3, 4, 5, 6, 7, 8, 9, 10, 11, 12, 13, 14], [12])])
def aviarylaw10_GraftBack.B8 : List Nat := [0, 1, 0, 4, 0, 0, 32, 0, 224, 511, 1023, 2047, 2047, 0, 12287, 32767]
theorem aviarylaw10_GraftBack.tab8 : rtab .any (opsOf Try.f7 8) = aviarylaw10_GraftBack.T8 := by kernel_rfl
theorem aviarylaw10_GraftBack.bits8 : waitsOk aviarylaw10_GraftBack.T8.2 aviarylaw10_GraftBack.B8 = true := by kernel_rfl
set_option maxHeartbeats 8000000 in
set_option maxRecDepth 100000 in
theorem aviarylaw10_GraftBack.calls (k : Nat) (a0_0 : Int) (a0_1 : Int) (A0_2 : Option Addr) (c0_2 : Nat) (l0_2 : List (S59)) (a1_0 : Int) (a1_1 : Int) (a1_2 : Int) (a1_3 : Int) (a1_4 : Int) (a1_5 : Int) (a1_6 : Int) (a1_7 : Int) (a2 : ByteArray) (r : Bool) (w : World) (hr0_2 : Kd.C k59 w A0_2 l0_2.length l0_2) (hc0_2 : l0_2.length ≤ c0_2) (h : aviarylaw10_GraftBack.f k a0_0 a0_1 l0_2 a1_0 a1_1 a1_2 a1_3 a1_4 a1_5 a1_6 a1_7 a2 = some r) :
    Calls Try.prog 7 #[.agg #[.int .i64 a0_0, .int .i64 a0_1, .slice A0_2 l0_2.length c0_2], .agg #[.int .i64 a1_0, .int .i64 a1_1, .int .i64 a1_2, .int .i64 a1_3, .int .i64 a1_4, .int .i64 a1_5, .int .i64 a1_6, .int .i64 a1_7], .string a2] w fun e w' => e = .returned (.bool r) ∧ Below w.heap.size w w' := by
  have hu27 := Try.underlying27
  have hu23 := Try.underlying23
  have HR0_2 := Aside0.mk hr0_2
  have HC0_2 := Aside0.mk hc0_2
  clear hr0_2 hc0_2
  have HB := Aside0.mk (Below.refl w.heap.size w)
  have H : ((aviarylaw10_works.f k).bind fun t264 => (if t264 = true then (if (l0_2.length : Int) > 20 then (aviarylaw10_GraftBack.j0 k a2 true a0_0 a0_1 l0_2 a1_0 a1_1 a1_2 a1_3 a1_4 a1_5 a1_6 a1_7) else (aviarylaw10_GraftBack.j0 k a2 (decide ((a2.size : Int) > 40000)) a0_0 a0_1 l0_2 a1_0 a1_1 a1_2 a1_3 a1_4 a1_5 a1_6 a1_7)) else (none))) = some r := h
  clear h
  replace H := Option.bind_eq_some_iff.mp H
  obtain ⟨t264, A40, H⟩ := H
  replace H : (if t264 = true then (if (l0_2.length : Int) > 20 then (aviarylaw10_GraftBack.j0 k a2 true a0_0 a0_1 l0_2 a1_0 a1_1 a1_2 a1_3 a1_4 a1_5 a1_6 a1_7) else (aviarylaw10_GraftBack.j0 k a2 (decide ((a2.size : Int) > 40000)) a0_0 a0_1 l0_2 a1_0 a1_1 a1_2 a1_3 a1_4 a1_5 a1_6 a1_7)) else (none)) = some r := H
  have A4 := Aside0.mk A40
  clear A40
  by_cases c5 : t264 = true
  · subst c5
    have H1 : (if (l0_2.length : Int) > 20 then (aviarylaw10_GraftBack.j0 k a2 true a0_0 a0_1 l0_2 a1_0 a1_1 a1_2 a1_3 a1_4 a1_5 a1_6 a1_7) else (aviarylaw10_GraftBack.j0 k a2 (decide ((a2.size : Int) > 40000)) a0_0 a0_1 l0_2 a1_0 a1_1 a1_2 a1_3 a1_4 a1_5 a1_6 a1_7)) = some r := by rw [if_pos rfl] at H; exact H
    clear H
    have H := H1
    clear H1
    have HC6 := Aside0.mk H
    clear H
    go_enter Try.func7, Try.ntmps7
    go_upto_region 3 with (first | ((with_reducible refine gate_dst (N := 3) rfl ?_); (try (refine gate_guard (by rfl) ?_; dsimp only)); refine box_event ?hg (N := 3) ?hd (cs := #[.int .i64 a0_0, .int .i64 a0_1, .slice A0_2 l0_2.length c0_2]) (t := 27) ?hr ?_; (case hd => rfl); (case hg => rfl); (case hr => first | (go_simp; done) | (go_simp; rfl)); intro gb262 hg w7 hbox hb; have n0_ := Aside0.mk (below_step by_ hb); have n1_ := Aside0.mk (hbox); have n2_ := Aside0.mk ((by rw [hg]; exact (below_size by_) : w.heap.size ≤ gb262)); have n3_ := Aside0.mk ((by rw [hg]; exact (below_size by_) : w.heap.size ≤ gb262)); clear HB; have HB := n0_; have BK262 := n1_; have GW262 := n2_; have GE262 := n3_; clear n0_ n1_ n2_ n3_; clear hb hbox hg) | ((with_reducible refine gate_dst (N := 4) rfl ?_); (try (refine gate_guard (by rfl) ?_; dsimp only)); refine box_event ?hg (N := 4) ?hd (cs := #[.int .i64 a1_0, .int .i64 a1_1, .int .i64 a1_2, .int .i64 a1_3, .int .i64 a1_4, .int .i64 a1_5, .int .i64 a1_6, .int .i64 a1_7]) (t := 23) ?hr ?_; (case hd => rfl); (case hg => rfl); (case hr => first | (go_simp; done) | (go_simp; rfl)); intro gb263 hg w8 hbox hb; have n0_ := Aside0.mk (blk_below (bkl_ BK262.out) hb); have n1_ := Aside0.mk (below_step by_ hb); have n2_ := Aside0.mk (hbox); have n3_ := Aside0.mk ((by rw [hg]; exact (below_size by_) : w.heap.size ≤ gb263)); have n4_ := Aside0.mk ((by rw [hg]; exact (below_size by_) : w.heap.size ≤ gb263)); have n5_ := Aside0.mk ((by rw [hg]; exact Nat.ne_of_lt (blk_lt (bkl_ BK262.out)) : gb262 ≠ gb263)); have n6_ := Aside0.mk ((by rw [hg]; exact Nat.ne_of_gt (blk_lt (bkl_ BK262.out)) : gb263 ≠ gb262)); clear BK262; clear HB; have BK262 := n0_; have HB := n1_; have BK263 := n2_; have GW263 := n3_; have GE263 := n4_; have NB262_263 := n5_; have NB263_262 := n6_; clear n0_ n1_ n2_ n3_ n4_ n5_ n6_; clear hb hbox hg) | ((with_reducible refine gate_callee (f := 26) rfl ?_); refine goesL_ (some 17) rfl rfl Try.func26 (by kernel_rfl) rfl #[] rfl ar_ ?_; (with_reducible refine (aviarylaw10_works.calls k  true _ A4.out).mono ?_); rintro e w9 ⟨rfl, hb⟩; refine ⟨_, rfl, ?_⟩; have n0_ := Aside0.mk (blk_below (bkl_ BK262.out) hb); have n1_ := Aside0.mk (blk_below (bkl_ BK263.out) hb); have n2_ := Aside0.mk (below_step by_ hb); clear BK262; clear BK263; clear HB; have BK262 := n0_; have BK263 := n1_; have HB := n2_; clear n0_ n1_ n2_; (try clear hb); (try clear hb2); (try clear hk); (try clear hi)))
    (try simp only [Act.put, List.setIfInBounds_toArray, List.set_cons_zero, List.set_cons_succ])
    go_cut [27] (fun v27 wc => ∃ (kq : Nat) (x27_5 : Bool), v27 = .bool x27_5 ∧ Aside0 (aviarylaw10_GraftBack.j0 kq a2 x27_5 a0_0 a0_1 l0_2 a1_0 a1_1 a1_2 a1_3 a1_4 a1_5 a1_6 a1_7 = some r) ∧ Aside0 (kq ≤ k) ∧ Aside0 (wc.heap[gb262]? = some (.cells #[.int .i64 a0_0, .int .i64 a0_1, (.slice A0_2 l0_2.length c0_2)] 27 (0, 0))) ∧ Aside0 (wc.heap[gb263]? = some (.cells #[.int .i64 a1_0, .int .i64 a1_1, .int .i64 a1_2, .int .i64 a1_3, .int .i64 a1_4, .int .i64 a1_5, .int .i64 a1_6, .int .i64 a1_7] 23 (0, 0))) ∧ Aside0 (Below w.heap.size w wc))
    case first =>
      have H := HC6.out
      clear HC6
      by_cases c10 : (l0_2.length : Int) > 20
      · rw [if_pos c10] at H
        have c10b0 : decide (20 < (l0_2.length : Int)) = true := decide_eq_true c10
        have c10b1 : decide (20 < l0_2.length) = true := decide_eq_true (by omega)
        clear c10
        (first | rw [c10b0] | (simp only [i64_w, i32_w]; rw [c10b0]) | skip)
        have H' := Aside0.mk H
        clear H
        have hnb11 := NB262_263.out
        have hnc11 := NB263_262.out
        have hcz12_0 : w9.cell? ⟨gb262, 0, none⟩ = some (.int .i64 a0_0) := (blk_cell BK262.out 0).trans rfl
        have hcz12_1 : w9.cell? ⟨gb262, 1, none⟩ = some (.int .i64 a0_1) := (blk_cell BK262.out 1).trans rfl
        have hcz12_2 : w9.cell? ⟨gb262, 2, none⟩ = some (.slice A0_2 l0_2.length c0_2) := (blk_cell BK262.out 2).trans rfl
        have hfz12_0 := blk_frozen BK262.out 0
        have hfz12_1 := blk_frozen BK262.out 1
        have hfz12_2 := blk_frozen BK262.out 2
        go_wp2
        go_meet
        case rel => exact ⟨_, (true), (by first | rfl | (simp; done) | (simp [*]; done)), H', ⟨by first | omega | exact Nat.le_refl _⟩, ⟨by (with_reducible repeat (first | refine blk_drewN ?_ _ | refine blk_drew ?_ | refine blk_alloc ?_ _)); exact BK262.out⟩, ⟨by (with_reducible repeat (first | refine blk_drewN ?_ _ | refine blk_drew ?_ | refine blk_alloc ?_ _)); exact BK263.out⟩, ⟨by repeat (first | (with_reducible first | exact HB.out | apply below_alloc | apply pw_below_drewN | apply below_drew1 | refine below_set ?_ GE262.out | refine below_set ?_ GE263.out) | exact HB.out)⟩⟩
      · rw [if_neg c10] at H
        have c10b0 : decide (20 < (l0_2.length : Int)) = false := decide_eq_false c10
        have c10b1 : decide (20 < l0_2.length) = false := decide_eq_false (by omega)
        clear c10
        (first | rw [c10b0] | (simp only [i64_w, i32_w]; rw [c10b0]) | skip)
        have H' := Aside0.mk H
        clear H
        have hnb13 := NB262_263.out
        have hnc13 := NB263_262.out
        have hcz14_0 : w9.cell? ⟨gb262, 0, none⟩ = some (.int .i64 a0_0) := (blk_cell BK262.out 0).trans rfl
        have hcz14_1 : w9.cell? ⟨gb262, 1, none⟩ = some (.int .i64 a0_1) := (blk_cell BK262.out 1).trans rfl
        have hcz14_2 : w9.cell? ⟨gb262, 2, none⟩ = some (.slice A0_2 l0_2.length c0_2) := (blk_cell BK262.out 2).trans rfl
        have hfz14_0 := blk_frozen BK262.out 0
        have hfz14_1 := blk_frozen BK262.out 1
        have hfz14_2 := blk_frozen BK262.out 2
        go_wp2
        go_meet
        case rel => exact ⟨_, (decide ((a2.size : Int) > 40000)), (by first | rfl | (simp; done) | (simp [*]; done)), H', ⟨by first | omega | exact Nat.le_refl _⟩, ⟨by (with_reducible repeat (first | refine blk_drewN ?_ _ | refine blk_drew ?_ | refine blk_alloc ?_ _)); exact BK262.out⟩, ⟨by (with_reducible repeat (first | refine blk_drewN ?_ _ | refine blk_drew ?_ | refine blk_alloc ?_ _)); exact BK263.out⟩, ⟨by repeat (first | (with_reducible first | exact HB.out | apply below_alloc | apply pw_below_drewN | apply below_drew1 | refine below_set ?_ GE262.out | refine below_set ?_ GE263.out) | exact HB.out)⟩⟩
    case rest =>
      clear HC6
      try clear c1
      try clear c2
      try clear p2
      try clear c5
      try clear c7
      try clear c10
      try clear c10b0
      try clear c10b1
      try clear c11
      try clear c13
      try clear hcz12_0
      try clear hcz12_1
      try clear hcz12_2
      try clear hcz14_0
      try clear hcz14_1
      try clear hcz14_2
      try clear hfz12_0
      try clear hfz12_1
      try clear hfz12_2
      try clear hfz14_0
      try clear hfz14_1
      try clear hfz14_2
      obtain ⟨kq, x27_5, rfl, HA, HJ5, BK262, BK263, HB⟩ := hcut
      cases kq with
      | zero => exact absurd HA.out (by simp [aviarylaw10_GraftBack.j0])
      | succ kj5 =>
        have H := HA.out
        clear HA
        simp only [aviarylaw10_GraftBack.j0] at H
        by_cases c15 : x27_5 = true
        · subst c15
          have H1 : (some true) = some r := by rw [if_pos rfl] at H; exact H
          clear H
          have H := H1
          clear H1
          obtain rfl := Option.some.inj H
          go_wp2
          go_ret
          exact ⟨by first | rfl | (simp [errW_none, errW_some] <;> rfl) | (simp [*, errW_none, errW_some] <;> rfl), by repeat (first | (with_reducible first | exact HB.out | apply below_alloc | apply pw_below_drewN | apply below_drew1 | refine below_set ?_ GE262.out | refine below_set ?_ GE263.out) | exact HB.out)⟩
        · replace c15 := Bool.eq_false_iff.mpr c15
          subst c15
          have H1 : ((aviarylaw10_Own.f a0_0 a0_1 l0_2).bind fun bt265 => ((graft_Encode.f kj5 bt265.1 bt265.2.1 bt265.2.2 a1_0 a1_1 a1_2 a1_3 a1_4 a1_5 a1_6 a1_7).bind fun bt270 => (if bt270.2 = 0 then ((graft_Decode.f kj5 bt270.1 a1_0 a1_1 a1_2 a1_3 a1_4 a1_5 a1_6 a1_7).bind fun bt272 => ((aviarylaw10_Own.f a0_0 a0_1 l0_2).bind fun bt279 => ((graft_Flat.f kj5 bt279.1 bt279.2.1 bt279.2.2 a1_0 a1_1 a1_2 a1_3 a1_4 a1_5 a1_6 a1_7).bind fun t284 => ((graft_Shape.f kj5 a0_0 a0_1 a1_0 a1_1 a1_2 a1_3 a1_4 a1_5 a1_6 a1_7 t284).bind fun bt287 => (if bt272.2.2.2 = 0 then (if bt287.2.2.2 = 0 then ((aviaryref10_Same.f bt272.1 bt272.2.1 bt272.2.2.1 a0_0 a0_1 l0_2).bind fun t294 => (if t294 = true then ((aviaryref10_Same.f bt287.1 bt287.2.1 bt287.2.2.1 a0_0 a0_1 l0_2).bind fun t295 => (if t295 = true then (aviarylaw10_GraftBack.j1 kj5 a2 a1_0 a1_1 a1_2 a1_3 a1_4 a1_5 a1_6 a1_7) else (none))) else (none))) else (none)) else (none)))))) else (aviarylaw10_GraftBack.j1 kj5 a2 a1_0 a1_1 a1_2 a1_3 a1_4 a1_5 a1_6 a1_7)))) = some r := by rw [if_neg (show ¬ (false = true) by decide)] at H; exact H
          clear H
          have H := H1
          clear H1
          replace H := Option.bind_eq_some_iff.mp H
          obtain ⟨⟨t265, t266, t267⟩, A160, H⟩ := H
          replace H : ((graft_Encode.f kj5 t265 t266 t267 a1_0 a1_1 a1_2 a1_3 a1_4 a1_5 a1_6 a1_7).bind fun bt270 => (if bt270.2 = 0 then ((graft_Decode.f kj5 bt270.1 a1_0 a1_1 a1_2 a1_3 a1_4 a1_5 a1_6 a1_7).bind fun bt272 => ((aviarylaw10_Own.f a0_0 a0_1 l0_2).bind fun bt279 => ((graft_Flat.f kj5 bt279.1 bt279.2.1 bt279.2.2 a1_0 a1_1 a1_2 a1_3 a1_4 a1_5 a1_6 a1_7).bind fun t284 => ((graft_Shape.f kj5 a0_0 a0_1 a1_0 a1_1 a1_2 a1_3 a1_4 a1_5 a1_6 a1_7 t284).bind fun bt287 => (if bt272.2.2.2 = 0 then (if bt287.2.2.2 = 0 then ((aviaryref10_Same.f bt272.1 bt272.2.1 bt272.2.2.1 a0_0 a0_1 l0_2).bind fun t294 => (if t294 = true then ((aviaryref10_Same.f bt287.1 bt287.2.1 bt287.2.2.1 a0_0 a0_1 l0_2).bind fun t295 => (if t295 = true then (aviarylaw10_GraftBack.j1 kj5 a2 a1_0 a1_1 a1_2 a1_3 a1_4 a1_5 a1_6 a1_7) else (none))) else (none))) else (none)) else (none)))))) else (aviarylaw10_GraftBack.j1 kj5 a2 a1_0 a1_1 a1_2 a1_3 a1_4 a1_5 a1_6 a1_7))) = some r := H
          have A16 := Aside0.mk A160
          clear A160
          replace H := Option.bind_eq_some_iff.mp H
          obtain ⟨⟨t270, t271⟩, A170, H⟩ := H
          replace H : (if t271 = 0 then ((graft_Decode.f kj5 t270 a1_0 a1_1 a1_2 a1_3 a1_4 a1_5 a1_6 a1_7).bind fun bt272 => ((aviarylaw10_Own.f a0_0 a0_1 l0_2).bind fun bt279 => ((graft_Flat.f kj5 bt279.1 bt279.2.1 bt279.2.2 a1_0 a1_1 a1_2 a1_3 a1_4 a1_5 a1_6 a1_7).bind fun t284 => ((graft_Shape.f kj5 a0_0 a0_1 a1_0 a1_1 a1_2 a1_3 a1_4 a1_5 a1_6 a1_7 t284).bind fun bt287 => (if bt272.2.2.2 = 0 then (if bt287.2.2.2 = 0 then ((aviaryref10_Same.f bt272.1 bt272.2.1 bt272.2.2.1 a0_0 a0_1 l0_2).bind fun t294 => (if t294 = true then ((aviaryref10_Same.f bt287.1 bt287.2.1 bt287.2.2.1 a0_0 a0_1 l0_2).bind fun t295 => (if t295 = true then (aviarylaw10_GraftBack.j1 kj5 a2 a1_0 a1_1 a1_2 a1_3 a1_4 a1_5 a1_6 a1_7) else (none))) else (none))) else (none)) else (none)))))) else (aviarylaw10_GraftBack.j1 kj5 a2 a1_0 a1_1 a1_2 a1_3 a1_4 a1_5 a1_6 a1_7)) = some r := H
          have A17 := Aside0.mk A170
          clear A170
          have HC18 := Aside0.mk H
          clear H
          try go_wp2
          have n0_ := Aside0.mk (blk_drew BK262.out)
          have n1_ := Aside0.mk (blk_drew BK263.out)
          have n2_ := Aside0.mk (below_drew1 HB.out)
          clear BK262
          clear BK263
          clear HB
          have BK262 := n0_
          have BK263 := n1_
          have HB := n2_
          clear n0_ n1_ n2_
          refine start_ (n := 9) (S := fun w' => w'.cell? ⟨gb262, 0, none⟩ = some (.int .i64 a0_0) ∧ w'.cell? ⟨gb262, 1, none⟩ = some (.int .i64 a0_1) ∧ w'.cell? ⟨gb262, 2, none⟩ = some (.slice A0_2 l0_2.length c0_2) ∧ w'.cell? ⟨gb263, 0, none⟩ = some (.int .i64 a1_0) ∧ w'.cell? ⟨gb263, 1, none⟩ = some (.int .i64 a1_1) ∧ w'.cell? ⟨gb263, 2, none⟩ = some (.int .i64 a1_2) ∧ w'.cell? ⟨gb263, 3, none⟩ = some (.int .i64 a1_3) ∧ w'.cell? ⟨gb263, 4, none⟩ = some (.int .i64 a1_4) ∧ w'.cell? ⟨gb263, 5, none⟩ = some (.int .i64 a1_5) ∧ w'.cell? ⟨gb263, 6, none⟩ = some (.int .i64 a1_6) ∧ w'.cell? ⟨gb263, 7, none⟩ = some (.int .i64 a1_7)) (ds := []) #[false, false, false, false, false, false, false, false, false] (by kernel_rfl) rfl rfl ⟨(blk_cell BK262.out 0).trans rfl, (blk_cell BK262.out 1).trans rfl, (blk_cell BK262.out 2).trans rfl, (blk_cell BK263.out 0).trans rfl, (blk_cell BK263.out 1).trans rfl, (blk_cell BK263.out 2).trans rfl, (blk_cell BK263.out 3).trans rfl, (blk_cell BK263.out 4).trans rfl, (blk_cell BK263.out 5).trans rfl, (blk_cell BK263.out 6).trans rfl, (blk_cell BK263.out 7).trans rfl⟩ (fun hHeld => ?_); refine with_tabW aviarylaw10_GraftBack.tab5 aviarylaw10_GraftBack.bits5 (fun HT_ HW_ => ?_)
          generalize wc.drew = w19 at BK262 BK263 HB hHeld ⊢
          refine take_ (i := 0) (N := some 29) (v := ?_) (a' := ?_) #[true, false, false, false, false, false, false, false, false] rfl rfl (take_ofW HT_.out HW_.out (by kernel_rfl)) (fun _ _ _ h => h) (Or.inl ⟨by rfl, ?_⟩) hHeld ?_ ?_
          rotate_left
          · rintro w' ⟨s0, s1, s2, s3, s4, s5, s6, s7, s8, s9, s10⟩
            go_simp
            with_reducible rfl
          rotate_left
          · simp only [Act.put, List.setIfInBounds_toArray, List.set_cons_zero, List.set_cons_succ, i64_w, i32_w]
            rfl
          refine take_ (i := 2) (N := some 31) (v := ?_) (a' := ?_) #[true, false, true, false, false, false, false, false, false] rfl rfl (take_ofW HT_.out HW_.out (by kernel_rfl)) (fun _ _ _ h => h) (Or.inl ⟨by rfl, ?_⟩) hHeld ?_ ?_
          rotate_left
          · rintro w' ⟨s0, s1, s2, s3, s4, s5, s6, s7, s8, s9, s10⟩
            go_simp
            with_reducible rfl
          rotate_left
          · simp only [Act.put, List.setIfInBounds_toArray, List.set_cons_zero, List.set_cons_succ, i64_w, i32_w]
            rfl
          refine one_ (i := 1) (N := some 30) #[true, true, true, false, false, false, false, false, false] rfl rfl (one_of HT_.out (by kernel_rfl)) (by decide) (fun K hK => ?_)
          refine goes_ Try.func16 (by kernel_rfl) rfl #[.agg #[.int .i64 a0_0, .int .i64 a0_1, .slice A0_2 l0_2.length c0_2]] (by rfl) rfl rfl ar_ ?_
          with_reducible refine (aviarylaw10_Own.calls a0_0 a0_1 _ _ l0_2 t265 t266 t267 _ ?side1 ?side2 A16.out).mono ?_
          (case side1 => repeat (first | exact (Kd.C_below HR0_2.out HB.out) | (with_reducible refine Kd.C_alloc ?_ _) | (with_reducible refine Kd.C_drewN ?_ _) | (with_reducible refine Kd.C_drew ?_)))
          (case side2 => exact HC0_2.out)
          rintro e w20 ⟨v268, rfl, ho0, hb⟩
          refine ⟨_, rfl, ?_⟩
          have n0_ := Aside0.mk (Kd.S_lower ho0 (below_size by_))
          have n1_ := Aside0.mk (blk_below (bkl_ BK262.out) hb)
          have n2_ := Aside0.mk (blk_below (bkl_ BK263.out) hb)
          have n3_ := Aside0.mk (below_step by_ hb)
          clear BK262
          clear BK263
          clear HB
          have HO269 := n0_
          have BK262 := n1_
          have BK263 := n2_
          have HB := n3_
          clear n0_ n1_ n2_ n3_
          (try clear hb)
          (try clear hb2)
          (try clear hk)
          (try clear hi)
          (try clear ho0)
          obtain ⟨Ao21, co21, eo21⟩ := Kd.S_slice HO269.out
          (first | subst eo21 | (injection eo21 with f1_ f2_ f3_; have f4_ := f1_.symm; have f5_ := f3_.symm; clear f1_ f2_ f3_; subst f4_; subst f5_))
          refine hK.out _ _ ⟨(blk_cell BK262.out 0).trans rfl, (blk_cell BK262.out 1).trans rfl, (blk_cell BK262.out 2).trans rfl, (blk_cell BK263.out 0).trans rfl, (blk_cell BK263.out 1).trans rfl, (blk_cell BK263.out 2).trans rfl, (blk_cell BK263.out 3).trans rfl, (blk_cell BK263.out 4).trans rfl, (blk_cell BK263.out 5).trans rfl, (blk_cell BK263.out 6).trans rfl, (blk_cell BK263.out 7).trans rfl⟩ (fun hHeld => ?_)
          clear hK K
          refine norm_ (a' := ?_) ?_ ?_
          rotate_left
          · show Act.put _ (some 30) _ = _
            simp only [Act.put, List.setIfInBounds_toArray, List.set_cons_zero, List.set_cons_succ, i64_w, i32_w]
            rfl
          refine one_ (i := 3) (N := some 32) #[true, true, true, true, false, false, false, false, false] rfl rfl (one_of HT_.out (by kernel_rfl)) (by decide) (fun K hK => ?_)
          refine goes_ Try.func17 (by kernel_rfl) rfl #[.agg #[.int .i64 t265, .int .i64 t266, .slice Ao21 t267.length co21], .agg #[.int .i64 a1_0, .int .i64 a1_1, .int .i64 a1_2, .int .i64 a1_3, .int .i64 a1_4, .int .i64 a1_5, .int .i64 a1_6, .int .i64 a1_7]] (by rfl) rfl rfl ar_ ?_
          with_reducible refine (graft_Encode.calls kj5 t265 t266 _ _ t267 a1_0 a1_1 a1_2 a1_3 a1_4 a1_5 a1_6 a1_7 t270 t271 _ ?side1 ?side2 A17.out).mono ?_
          (case side1 => repeat (first | exact (Kd.S_reads' HO269.out).2.2 | (with_reducible refine Kd.C_alloc ?_ _) | (with_reducible refine Kd.C_drewN ?_ _) | (with_reducible refine Kd.C_drew ?_)))
          (case side2 => exact (Kd.S_reads' HO269.out).2.1)
          rintro e w22 ⟨rfl, hb⟩
          refine ⟨_, rfl, ?_⟩
          have n0_ := Aside0.mk (Kd.S_below (by (with_reducible repeat (first | apply Kd.S_alloc | apply Kd.S_drewN | apply Kd.S_drew)); exact HO269.out) hb)
          have n1_ := Aside0.mk (blk_below (bkl_ BK262.out) hb)
          have n2_ := Aside0.mk (blk_below (bkl_ BK263.out) hb)
          have n3_ := Aside0.mk (below_step by_ hb)
          clear HO269
          clear BK262
          clear BK263
          clear HB
          have HO269 := n0_
          have BK262 := n1_
          have BK263 := n2_
          have HB := n3_
          clear n0_ n1_ n2_ n3_
          (try clear hb)
          (try clear hb2)
          (try clear hk)
          (try clear hi)
          refine hK.out _ _ ⟨(blk_cell BK262.out 0).trans rfl, (blk_cell BK262.out 1).trans rfl, (blk_cell BK262.out 2).trans rfl, (blk_cell BK263.out 0).trans rfl, (blk_cell BK263.out 1).trans rfl, (blk_cell BK263.out 2).trans rfl, (blk_cell BK263.out 3).trans rfl, (blk_cell BK263.out 4).trans rfl, (blk_cell BK263.out 5).trans rfl, (blk_cell BK263.out 6).trans rfl, (blk_cell BK263.out 7).trans rfl⟩ (fun hHeld => ?_)
          clear hK K
          refine norm_ (a' := ?_) ?_ ?_
          rotate_left
          · show Act.put _ (some 32) _ = _
            simp only [Act.put, List.setIfInBounds_toArray, List.set_cons_zero, List.set_cons_succ, i64_w, i32_w]
            rfl
          refine pure_ (i := 4) (N := some 28) (v := ?_) (a' := ?_) #[true, true, true, true, true, false, false, false, false] rfl rfl (any_of HT_.out (by kernel_rfl)) (fun _ _ _ h => h) (Or.inl ⟨by rfl, ?_⟩) ?_ ?_
          rotate_left
          · intro w'
            go_simp
            with_reducible rfl
          rotate_left
          · simp only [Act.put, List.setIfInBounds_toArray, List.set_cons_zero, List.set_cons_succ, i64_w, i32_w]
            rfl
          refine pure_ (i := 5) (N := some 33) (v := ?_) (a' := ?_) #[true, true, true, true, true, true, false, false, false] rfl rfl (any_of HT_.out (by kernel_rfl)) (fun _ _ _ h => h) (Or.inl ⟨by rfl, ?_⟩) ?_ ?_
          rotate_left
          · intro w'
            go_simp
            with_reducible rfl
          rotate_left
          · simp only [Act.put, List.setIfInBounds_toArray, List.set_cons_zero, List.set_cons_succ, i64_w, i32_w]
            rfl
          refine pure_ (i := 6) (N := some 34) (v := ?_) (a' := ?_) #[true, true, true, true, true, true, true, false, false] rfl rfl (any_of HT_.out (by kernel_rfl)) (fun _ _ _ h => h) (Or.inl ⟨by rfl, ?_⟩) ?_ ?_
          rotate_left
          · intro w'
            go_simp
            with_reducible rfl
          rotate_left
          · simp only [Act.put, List.setIfInBounds_toArray, List.set_cons_zero, List.set_cons_succ, i64_w, i32_w]
            rfl
          refine pure_ (i := 7) (N := some 7) (v := ?_) (a' := ?_) #[true, true, true, true, true, true, true, true, false] rfl rfl (any_of HT_.out (by kernel_rfl)) (fun _ _ _ h => h) (Or.inl ⟨by rfl, ?_⟩) ?_ ?_
          rotate_left
          · intro w'
            go_simp
            with_reducible rfl
          rotate_left
          · simp only [Act.put, List.setIfInBounds_toArray, List.set_cons_zero, List.set_cons_succ, i64_w, i32_w]
            rfl
          refine pure_ (i := 8) (N := some 8) (v := ?_) (a' := ?_) #[true, true, true, true, true, true, true, true, true] rfl rfl (any_of HT_.out (by kernel_rfl)) (fun _ _ _ h => h) (Or.inl ⟨by rfl, ?_⟩) ?_ ?_
          rotate_left
          · intro w'
            go_simp
            with_reducible rfl
          rotate_left
          · simp only [Act.put, List.setIfInBounds_toArray, List.set_cons_zero, List.set_cons_succ, i64_w, i32_w]
            rfl
          refine done_ (done_of HT_.out (by kernel_rfl)) ?_
          go_upto_if 36 with (fail)
          go_cut [] (fun wc => ∃ (kq : Nat), Aside0 (aviarylaw10_GraftBack.j1 kq a2 a1_0 a1_1 a1_2 a1_3 a1_4 a1_5 a1_6 a1_7 = some r) ∧ Aside0 (kq ≤ kj5) ∧ Aside0 (wc.heap[gb262]? = some (.cells #[.int .i64 a0_0, .int .i64 a0_1, (.slice A0_2 l0_2.length c0_2)] 27 (0, 0))) ∧ Aside0 (wc.heap[gb263]? = some (.cells #[.int .i64 a1_0, .int .i64 a1_1, .int .i64 a1_2, .int .i64 a1_3, .int .i64 a1_4, .int .i64 a1_5, .int .i64 a1_6, .int .i64 a1_7] 23 (0, 0))) ∧ Aside0 (Below w.heap.size w wc))
          case first =>
            have H := HC18.out
            clear HC18
            by_cases c23 : t271 = 0
            · rw [if_pos c23] at H
              have c23b0 : (t271 == 0) = true := beq_iff_eq.mpr c23
              have c23b1 : (t271 != 0) = false := bne_eq_false_iff_eq.mpr c23
              clear c23
              (first | rw [c23b0] | (simp only [i64_w, i32_w]; rw [c23b0]) | skip)
              replace H := Option.bind_eq_some_iff.mp H
              obtain ⟨⟨t272, t273, t274, t277⟩, A240, H⟩ := H
              replace H : ((aviarylaw10_Own.f a0_0 a0_1 l0_2).bind fun bt279 => ((graft_Flat.f kj5 bt279.1 bt279.2.1 bt279.2.2 a1_0 a1_1 a1_2 a1_3 a1_4 a1_5 a1_6 a1_7).bind fun t284 => ((graft_Shape.f kj5 a0_0 a0_1 a1_0 a1_1 a1_2 a1_3 a1_4 a1_5 a1_6 a1_7 t284).bind fun bt287 => (if t277 = 0 then (if bt287.2.2.2 = 0 then ((aviaryref10_Same.f t272 t273 t274 a0_0 a0_1 l0_2).bind fun t294 => (if t294 = true then ((aviaryref10_Same.f bt287.1 bt287.2.1 bt287.2.2.1 a0_0 a0_1 l0_2).bind fun t295 => (if t295 = true then (aviarylaw10_GraftBack.j1 kj5 a2 a1_0 a1_1 a1_2 a1_3 a1_4 a1_5 a1_6 a1_7) else (none))) else (none))) else (none)) else (none))))) = some r := H
              have A24 := Aside0.mk A240
              clear A240
              replace H := Option.bind_eq_some_iff.mp H
              obtain ⟨⟨t279, t280, t281⟩, A250, H⟩ := H
              replace H : ((graft_Flat.f kj5 t279 t280 t281 a1_0 a1_1 a1_2 a1_3 a1_4 a1_5 a1_6 a1_7).bind fun t284 => ((graft_Shape.f kj5 a0_0 a0_1 a1_0 a1_1 a1_2 a1_3 a1_4 a1_5 a1_6 a1_7 t284).bind fun bt287 => (if t277 = 0 then (if bt287.2.2.2 = 0 then ((aviaryref10_Same.f t272 t273 t274 a0_0 a0_1 l0_2).bind fun t294 => (if t294 = true then ((aviaryref10_Same.f bt287.1 bt287.2.1 bt287.2.2.1 a0_0 a0_1 l0_2).bind fun t295 => (if t295 = true then (aviarylaw10_GraftBack.j1 kj5 a2 a1_0 a1_1 a1_2 a1_3 a1_4 a1_5 a1_6 a1_7) else (none))) else (none))) else (none)) else (none)))) = some r := H
              have A25 := Aside0.mk A250
              clear A250
              replace H := Option.bind_eq_some_iff.mp H
              obtain ⟨t284, A260, H⟩ := H
              replace H : ((graft_Shape.f kj5 a0_0 a0_1 a1_0 a1_1 a1_2 a1_3 a1_4 a1_5 a1_6 a1_7 t284).bind fun bt287 => (if t277 = 0 then (if bt287.2.2.2 = 0 then ((aviaryref10_Same.f t272 t273 t274 a0_0 a0_1 l0_2).bind fun t294 => (if t294 = true then ((aviaryref10_Same.f bt287.1 bt287.2.1 bt287.2.2.1 a0_0 a0_1 l0_2).bind fun t295 => (if t295 = true then (aviarylaw10_GraftBack.j1 kj5 a2 a1_0 a1_1 a1_2 a1_3 a1_4 a1_5 a1_6 a1_7) else (none))) else (none))) else (none)) else (none))) = some r := H
              have A26 := Aside0.mk A260
              clear A260
              replace H := Option.bind_eq_some_iff.mp H
              obtain ⟨⟨t287, t288, t289, t292⟩, A270, H⟩ := H
              replace H : (if t277 = 0 then (if t292 = 0 then ((aviaryref10_Same.f t272 t273 t274 a0_0 a0_1 l0_2).bind fun t294 => (if t294 = true then ((aviaryref10_Same.f t287 t288 t289 a0_0 a0_1 l0_2).bind fun t295 => (if t295 = true then (aviarylaw10_GraftBack.j1 kj5 a2 a1_0 a1_1 a1_2 a1_3 a1_4 a1_5 a1_6 a1_7) else (none))) else (none))) else (none)) else (none)) = some r := H
              have A27 := Aside0.mk A270
              clear A270
              by_cases c28 : t277 = 0
              · rw [if_pos c28] at H
                have c28b0 : (t277 == 0) = true := beq_iff_eq.mpr c28
                have c28b1 : (t277 != 0) = false := bne_eq_false_iff_eq.mpr c28
                clear c28
                by_cases c29 : t292 = 0
                · rw [if_pos c29] at H
                  have c29b0 : (t292 == 0) = true := beq_iff_eq.mpr c29
                  have c29b1 : (t292 != 0) = false := bne_eq_false_iff_eq.mpr c29
                  clear c29
                  replace H := Option.bind_eq_some_iff.mp H
                  obtain ⟨t294, A300, H⟩ := H
                  replace H : (if t294 = true then ((aviaryref10_Same.f t287 t288 t289 a0_0 a0_1 l0_2).bind fun t295 => (if t295 = true then (aviarylaw10_GraftBack.j1 kj5 a2 a1_0 a1_1 a1_2 a1_3 a1_4 a1_5 a1_6 a1_7) else (none))) else (none)) = some r := H
                  have A30 := Aside0.mk A300
                  clear A300
                  by_cases c31 : t294 = true
                  · subst c31
                    have H1 : ((aviaryref10_Same.f t287 t288 t289 a0_0 a0_1 l0_2).bind fun t295 => (if t295 = true then (aviarylaw10_GraftBack.j1 kj5 a2 a1_0 a1_1 a1_2 a1_3 a1_4 a1_5 a1_6 a1_7) else (none))) = some r := by rw [if_pos rfl] at H; exact H
                    clear H
                    have H := H1
                    clear H1
                    replace H := Option.bind_eq_some_iff.mp H
                    obtain ⟨t295, A320, H⟩ := H
                    replace H : (if t295 = true then (aviarylaw10_GraftBack.j1 kj5 a2 a1_0 a1_1 a1_2 a1_3 a1_4 a1_5 a1_6 a1_7) else (none)) = some r := H
                    have A32 := Aside0.mk A320
                    clear A320
                    by_cases c33 : t295 = true
                    · subst c33
                      have H1 : (aviarylaw10_GraftBack.j1 kj5 a2 a1_0 a1_1 a1_2 a1_3 a1_4 a1_5 a1_6 a1_7) = some r := by rw [if_pos rfl] at H; exact H
                      clear H
                      have H := H1
                      clear H1
                      have H' := Aside0.mk H
                      clear H
                      have hnb34 := NB263_262.out
                      have hnc34 := NB262_263.out
                      have hcz35_0 : w22.cell? ⟨gb263, 0, none⟩ = some (.int .i64 a1_0) := (blk_cell BK263.out 0).trans rfl
                      have hcz35_1 : w22.cell? ⟨gb263, 1, none⟩ = some (.int .i64 a1_1) := (blk_cell BK263.out 1).trans rfl
                      have hcz35_2 : w22.cell? ⟨gb263, 2, none⟩ = some (.int .i64 a1_2) := (blk_cell BK263.out 2).trans rfl
                      have hcz35_3 : w22.cell? ⟨gb263, 3, none⟩ = some (.int .i64 a1_3) := (blk_cell BK263.out 3).trans rfl
                      have hcz35_4 : w22.cell? ⟨gb263, 4, none⟩ = some (.int .i64 a1_4) := (blk_cell BK263.out 4).trans rfl
                      have hcz35_5 : w22.cell? ⟨gb263, 5, none⟩ = some (.int .i64 a1_5) := (blk_cell BK263.out 5).trans rfl
                      have hcz35_6 : w22.cell? ⟨gb263, 6, none⟩ = some (.int .i64 a1_6) := (blk_cell BK263.out 6).trans rfl
                      have hcz35_7 : w22.cell? ⟨gb263, 7, none⟩ = some (.int .i64 a1_7) := (blk_cell BK263.out 7).trans rfl
                      have hfz35_0 := blk_frozen BK263.out 0
                      have hfz35_1 := blk_frozen BK263.out 1
                      have hfz35_2 := blk_frozen BK263.out 2
                      have hfz35_3 := blk_frozen BK263.out 3
                      have hfz35_4 := blk_frozen BK263.out 4
                      have hfz35_5 := blk_frozen BK263.out 5
                      have hfz35_6 := blk_frozen BK263.out 6
                      have hfz35_7 := blk_frozen BK263.out 7
                      try go_wp2_with (first | ((with_reducible refine gate_callee (f := 24) rfl ?_); refine goesL_ (some 40) rfl rfl Try.func24 (by kernel_rfl) rfl #[.string t270, .agg #[.int .i64 a1_0, .int .i64 a1_1, .int .i64 a1_2, .int .i64 a1_3, .int .i64 a1_4, .int .i64 a1_5, .int .i64 a1_6, .int .i64 a1_7]] rfl ar_ ?_; (with_reducible refine (graft_Decode.calls kj5 t270 a1_0 a1_1 a1_2 a1_3 a1_4 a1_5 a1_6 a1_7 t272 t273 t274 t277 _ A24.out).mono ?_); rintro e w36 ⟨v275, rfl, ho0, hb⟩; refine ⟨_, rfl, ?_⟩; have n0_ := Aside0.mk (Kd.S_elder' (by (with_reducible repeat (first | apply Kd.S_alloc | apply Kd.S_drewN | apply Kd.S_drew)); exact HO269.out) (Kd.S_base ho0) hb); have n1_ := Aside0.mk (Kd.S_lower (Kd.S_new' ho0 (Kd.S_lt (by (with_reducible repeat (first | apply Kd.S_alloc | apply Kd.S_drewN | apply Kd.S_drew)); exact HO269.out))) (below_size by_)); have n2_ := Aside0.mk (blk_below (bkl_ BK262.out) hb); have n3_ := Aside0.mk (blk_below (bkl_ BK263.out) hb); have n4_ := Aside0.mk (below_step by_ hb); clear HO269; clear BK262; clear BK263; clear HB; have HO269 := n0_; have HO276 := n1_; have BK262 := n2_; have BK263 := n3_; have HB := n4_; clear n0_ n1_ n2_ n3_ n4_; (try clear hb); (try clear hb2); (try clear hk); (try clear hi); (try clear ho0)) | ((with_reducible refine gate_dst (N := 9) rfl ?_); (try (refine gate_guard (by rfl) ?_; dsimp only)); refine box_event ?hg (N := 9) ?hd (cs := #[.int .i64 0, .int .i64 0, .slice none 0 0]) (t := 27) ?hr ?_; (case hd => rfl); (case hg => rfl); (case hr => first | (go_simp; done) | (go_simp; rfl)); intro gb278 hg w37 hbox hb; have n0_ := Aside0.mk (Kd.S_below (by (with_reducible repeat (first | apply Kd.S_alloc | apply Kd.S_drewN | apply Kd.S_drew)); exact HO269.out) hb); have n1_ := Aside0.mk (Kd.S_below (by (with_reducible repeat (first | apply Kd.S_alloc | apply Kd.S_drewN | apply Kd.S_drew)); exact HO276.out) hb); have n2_ := Aside0.mk (blk_below (bkl_ BK262.out) hb); have n3_ := Aside0.mk (blk_below (bkl_ BK263.out) hb); have n4_ := Aside0.mk (below_step by_ hb); have n5_ := Aside0.mk (hbox); have n6_ := Aside0.mk ((by rw [hg]; exact (below_size by_) : w.heap.size ≤ gb278)); have n7_ := Aside0.mk ((by rw [hg]; exact (below_size by_) : w.heap.size ≤ gb278)); have n8_ := Aside0.mk ((by rw [hg]; exact Nat.ne_of_lt (blk_lt (bkl_ BK262.out)) : gb262 ≠ gb278)); have n9_ := Aside0.mk ((by rw [hg]; exact Nat.ne_of_gt (blk_lt (bkl_ BK262.out)) : gb278 ≠ gb262)); have n10_ := Aside0.mk ((by rw [hg]; exact Nat.ne_of_lt (blk_lt (bkl_ BK263.out)) : gb263 ≠ gb278)); have n11_ := Aside0.mk ((by rw [hg]; exact Nat.ne_of_gt (blk_lt (bkl_ BK263.out)) : gb278 ≠ gb263)); clear HO269; clear HO276; clear BK262; clear BK263; clear HB; have HO269 := n0_; have HO276 := n1_; have BK262 := n2_; have BK263 := n3_; have HB := n4_; have BK278 := n5_; have GW278 := n6_; have GE278 := n7_; have NB262_278 := n8_; have NB278_262 := n9_; have NB263_278 := n10_; have NB278_263 := n11_; clear n0_ n1_ n2_ n3_ n4_ n5_ n6_ n7_ n8_ n9_ n10_ n11_; clear hb hbox hg; have hnb38 := NB278_262.out; have hnc38 := NB262_278.out; have hnb39 := NB278_263.out; have hnc39 := NB263_278.out; have hcz40_0 : w37.cell? ⟨gb278, 0, none⟩ = some (.int .i64 0) := (blk_cell BK278.out 0).trans rfl; have hcz40_1 : w37.cell? ⟨gb278, 1, none⟩ = some (.int .i64 0) := (blk_cell BK278.out 1).trans rfl; have hcz40_2 : w37.cell? ⟨gb278, 2, none⟩ = some (.slice none 0 0) := (blk_cell BK278.out 2).trans rfl; have hfz40_0 := blk_frozen BK278.out 0; have hfz40_1 := blk_frozen BK278.out 1; have hfz40_2 := blk_frozen BK278.out 2; obtain ⟨Ao41, co41, eo41⟩ := Kd.S_slice HO276.out; subst eo41))
                      have n0_ : Aside0 (Kd.S k59 59 (((w37.setCell ⟨gb278, 0, none⟩ (.int .i64 t272)).setCell ⟨gb278, 1, none⟩ (.int .i64 t273)).setCell ⟨gb278, 2, none⟩ (.slice Ao41 t274.length co41)) w.heap.size (fun k_ => some k_ ≠ (.slice Ao41 t274.length co41 : Value).ownBlock) (.slice Ao21 t267.length co21) t267) := ⟨by (with_reducible repeat (first | apply Kd.S_alloc | apply Kd.S_drewN | apply Kd.S_drew)); exact Kd.S_mono (Kd.S_far (p := ⟨gb278, 2, none⟩) (Kd.S_far (p := ⟨gb278, 1, none⟩) (Kd.S_far (p := ⟨gb278, 0, none⟩) (Kd.S_types HO269.out BK278.out (by decide)) (fun _ hk => hk.2) (.int .i64 t272)) (fun _ hk => hk.2) (.int .i64 t273)) (fun _ hk => hk.2) (.slice Ao41 t274.length co41)) (fun _ hk => hk.1.2)⟩
                      have n1_ : Aside0 (Kd.S k59 59 (((w37.setCell ⟨gb278, 0, none⟩ (.int .i64 t272)).setCell ⟨gb278, 1, none⟩ (.int .i64 t273)).setCell ⟨gb278, 2, none⟩ (.slice Ao41 t274.length co41)) w.heap.size (fun k_ => some k_ ≠ (.slice Ao21 t267.length co21 : Value).ownBlock) (.slice Ao41 t274.length co41) t274) := ⟨by (with_reducible repeat (first | apply Kd.S_alloc | apply Kd.S_drewN | apply Kd.S_drew)); exact Kd.S_mono (Kd.S_far (p := ⟨gb278, 2, none⟩) (Kd.S_far (p := ⟨gb278, 1, none⟩) (Kd.S_far (p := ⟨gb278, 0, none⟩) (Kd.S_types HO276.out BK278.out (by decide)) (fun _ hk => hk.2) (.int .i64 t272)) (fun _ hk => hk.2) (.int .i64 t273)) (fun _ hk => hk.2) (.slice Ao41 t274.length co41)) (fun _ hk => hk.1.2)⟩
                      have n2_ : Aside0 ((((w37.setCell ⟨gb278, 0, none⟩ (.int .i64 t272)).setCell ⟨gb278, 1, none⟩ (.int .i64 t273)).setCell ⟨gb278, 2, none⟩ (.slice Ao41 t274.length co41)).heap[gb262]? = some (.cells #[.int .i64 a0_0, .int .i64 a0_1, .slice A0_2 l0_2.length c0_2] 27 (0, 0))) := ⟨by (with_reducible repeat (first | refine blk_drewN ?_ _ | refine blk_drew ?_ | refine blk_alloc ?_ _)); refine blk_far ?_ NB262_278.out _; (with_reducible repeat (first | refine blk_drewN ?_ _ | refine blk_drew ?_ | refine blk_alloc ?_ _)); refine blk_far ?_ NB262_278.out _; (with_reducible repeat (first | refine blk_drewN ?_ _ | refine blk_drew ?_ | refine blk_alloc ?_ _)); refine blk_far ?_ NB262_278.out _; (with_reducible repeat (first | refine blk_drewN ?_ _ | refine blk_drew ?_ | refine blk_alloc ?_ _)); exact BK262.out⟩
                      have n3_ : Aside0 ((((w37.setCell ⟨gb278, 0, none⟩ (.int .i64 t272)).setCell ⟨gb278, 1, none⟩ (.int .i64 t273)).setCell ⟨gb278, 2, none⟩ (.slice Ao41 t274.length co41)).heap[gb263]? = some (.cells #[.int .i64 a1_0, .int .i64 a1_1, .int .i64 a1_2, .int .i64 a1_3, .int .i64 a1_4, .int .i64 a1_5, .int .i64 a1_6, .int .i64 a1_7] 23 (0, 0))) := ⟨by (with_reducible repeat (first | refine blk_drewN ?_ _ | refine blk_drew ?_ | refine blk_alloc ?_ _)); refine blk_far ?_ NB263_278.out _; (with_reducible repeat (first | refine blk_drewN ?_ _ | refine blk_drew ?_ | refine blk_alloc ?_ _)); refine blk_far ?_ NB263_278.out _; (with_reducible repeat (first | refine blk_drewN ?_ _ | refine blk_drew ?_ | refine blk_alloc ?_ _)); refine blk_far ?_ NB263_278.out _; (with_reducible repeat (first | refine blk_drewN ?_ _ | refine blk_drew ?_ | refine blk_alloc ?_ _)); exact BK263.out⟩
                      have n4_ : Aside0 ((((w37.setCell ⟨gb278, 0, none⟩ (.int .i64 t272)).setCell ⟨gb278, 1, none⟩ (.int .i64 t273)).setCell ⟨gb278, 2, none⟩ (.slice Ao41 t274.length co41)).heap[gb278]? = some (.cells #[.int .i64 t272, .int .i64 t273, .slice Ao41 t274.length co41] 27 (0, 0))) := ⟨by (with_reducible repeat (first | refine blk_drewN ?_ _ | refine blk_drew ?_ | refine blk_alloc ?_ _)); refine blk_put (cs := #[.int .i64 t272, .int .i64 t273, .slice none 0 0]) ?_ 2 _ rfl; (with_reducible repeat (first | refine blk_drewN ?_ _ | refine blk_drew ?_ | refine blk_alloc ?_ _)); refine blk_put (cs := #[.int .i64 t272, .int .i64 0, .slice none 0 0]) ?_ 1 _ rfl; (with_reducible repeat (first | refine blk_drewN ?_ _ | refine blk_drew ?_ | refine blk_alloc ?_ _)); refine blk_put (cs := #[.int .i64 0, .int .i64 0, .slice none 0 0]) ?_ 0 _ rfl; (with_reducible repeat (first | refine blk_drewN ?_ _ | refine blk_drew ?_ | refine blk_alloc ?_ _)); exact BK278.out⟩
                      have n5_ : Aside0 (Below w.heap.size w (((w37.setCell ⟨gb278, 0, none⟩ (.int .i64 t272)).setCell ⟨gb278, 1, none⟩ (.int .i64 t273)).setCell ⟨gb278, 2, none⟩ (.slice Ao41 t274.length co41))) := ⟨by repeat (first | (with_reducible first | exact HB.out | apply below_alloc | apply pw_below_drewN | apply below_drew1 | refine below_set ?_ GE262.out | refine below_set ?_ GE263.out | refine below_set ?_ GE278.out) | exact HB.out)⟩
                      (try clear HO269)
                      (try clear HO276)
                      (try clear BK262)
                      (try clear BK263)
                      (try clear BK278)
                      (try clear HB)
                      generalize (((w37.setCell ⟨gb278, 0, none⟩ (.int .i64 t272)).setCell ⟨gb278, 1, none⟩ (.int .i64 t273)).setCell ⟨gb278, 2, none⟩ (.slice Ao41 t274.length co41)) = w42 at n0_ n1_ n2_ n3_ n4_ n5_ ⊢
                      have HO269 := n0_
                      have HO276 := n1_
                      have BK262 := n2_
                      have BK263 := n3_
                      have BK278 := n4_
                      have HB := n5_
                      clear n0_ n1_ n2_ n3_ n4_ n5_
                      have n0_ := Aside0.mk (Kd.S_drew HO269.out)
                      have n1_ := Aside0.mk (Kd.S_drew HO276.out)
                      have n2_ := Aside0.mk (blk_drew BK262.out)
                      have n3_ := Aside0.mk (blk_drew BK263.out)
                      have n4_ := Aside0.mk (blk_drew BK278.out)
                      have n5_ := Aside0.mk (below_drew1 HB.out)
                      clear HO269
                      clear HO276
                      clear BK262
                      clear BK263
                      clear BK278
                      clear HB
                      have HO269 := n0_
                      have HO276 := n1_
                      have BK262 := n2_
                      have BK263 := n3_
                      have BK278 := n4_
                      have HB := n5_
                      clear n0_ n1_ n2_ n3_ n4_ n5_
                      refine start_ (n := 16) (S := fun w' => w'.cell? ⟨gb262, 0, none⟩ = some (.int .i64 a0_0) ∧ w'.cell? ⟨gb262, 1, none⟩ = some (.int .i64 a0_1) ∧ w'.cell? ⟨gb262, 2, none⟩ = some (.slice A0_2 l0_2.length c0_2) ∧ w'.cell? ⟨gb263, 0, none⟩ = some (.int .i64 a1_0) ∧ w'.cell? ⟨gb263, 1, none⟩ = some (.int .i64 a1_1) ∧ w'.cell? ⟨gb263, 2, none⟩ = some (.int .i64 a1_2) ∧ w'.cell? ⟨gb263, 3, none⟩ = some (.int .i64 a1_3) ∧ w'.cell? ⟨gb263, 4, none⟩ = some (.int .i64 a1_4) ∧ w'.cell? ⟨gb263, 5, none⟩ = some (.int .i64 a1_5) ∧ w'.cell? ⟨gb263, 6, none⟩ = some (.int .i64 a1_6) ∧ w'.cell? ⟨gb263, 7, none⟩ = some (.int .i64 a1_7)) (ds := []) #[false, false, false, false, false, false, false, false, false, false, false, false, false, false, false, false] (by kernel_rfl) rfl rfl ⟨(blk_cell BK262.out 0).trans rfl, (blk_cell BK262.out 1).trans rfl, (blk_cell BK262.out 2).trans rfl, (blk_cell BK263.out 0).trans rfl, (blk_cell BK263.out 1).trans rfl, (blk_cell BK263.out 2).trans rfl, (blk_cell BK263.out 3).trans rfl, (blk_cell BK263.out 4).trans rfl, (blk_cell BK263.out 5).trans rfl, (blk_cell BK263.out 6).trans rfl, (blk_cell BK263.out 7).trans rfl⟩ (fun hHeld => ?_); refine with_tabW aviarylaw10_GraftBack.tab8 aviarylaw10_GraftBack.bits8 (fun HT_ HW_ => ?_)
                      generalize w42.drew = w43 at HO269 HO276 BK262 BK263 BK278 HB hHeld ⊢
                      refine pure_ (i := 0) (N := some 44) (v := ?_) (a' := ?_) #[true, false, false, false, false, false, false, false, false, false, false, false, false, false, false, false] rfl rfl (any_of HT_.out (by kernel_rfl)) (fun _ _ _ h => h) (Or.inl ⟨by rfl, ?_⟩) ?_ ?_
                      rotate_left
                      · intro w'
                        go_simp
                        with_reducible rfl
                      rotate_left
                      · simp only [Act.put, List.setIfInBounds_toArray, List.set_cons_zero, List.set_cons_succ, i64_w, i32_w]
                        rfl
                      refine pure_ (i := 2) (N := some 46) (v := ?_) (a' := ?_) #[true, false, true, false, false, false, false, false, false, false, false, false, false, false, false, false] rfl rfl (any_of HT_.out (by kernel_rfl)) (fun _ _ _ h => h) (Or.inl ⟨by rfl, ?_⟩) ?_ ?_
                      rotate_left
                      · intro w'
                        go_simp
                        with_reducible rfl
                      rotate_left
                      · simp only [Act.put, List.setIfInBounds_toArray, List.set_cons_zero, List.set_cons_succ, i64_w, i32_w]
                        rfl
                      refine take_ (i := 1) (N := some 45) (v := ?_) (a' := ?_) #[true, true, true, false, false, false, false, false, false, false, false, false, false, false, false, false] rfl rfl (take_ofW HT_.out HW_.out (by kernel_rfl)) (fun _ _ _ h => h) (Or.inl ⟨by rfl, ?_⟩) hHeld ?_ ?_
                      rotate_left
                      · rintro w' ⟨s0, s1, s2, s3, s4, s5, s6, s7, s8, s9, s10⟩
                        go_simp
                        with_reducible rfl
                      rotate_left
                      · simp only [Act.put, List.setIfInBounds_toArray, List.set_cons_zero, List.set_cons_succ, i64_w, i32_w]
                        rfl
                      refine take_ (i := 3) (N := some 47) (v := ?_) (a' := ?_) #[true, true, true, true, false, false, false, false, false, false, false, false, false, false, false, false] rfl rfl (take_ofW HT_.out HW_.out (by kernel_rfl)) (fun _ _ _ h => h) (Or.inl ⟨by rfl, ?_⟩) hHeld ?_ ?_
                      rotate_left
                      · rintro w' ⟨s0, s1, s2, s3, s4, s5, s6, s7, s8, s9, s10⟩
                        go_simp
                        with_reducible rfl
                      rotate_left
                      · simp only [Act.put, List.setIfInBounds_toArray, List.set_cons_zero, List.set_cons_succ, i64_w, i32_w]
                        rfl
                      refine take_ (i := 4) (N := some 48) (v := ?_) (a' := ?_) #[true, true, true, true, true, false, false, false, false, false, false, false, false, false, false, false] rfl rfl (take_ofW HT_.out HW_.out (by kernel_rfl)) (fun _ _ _ h => h) (Or.inl ⟨by rfl, ?_⟩) hHeld ?_ ?_
                      rotate_left
                      · rintro w' ⟨s0, s1, s2, s3, s4, s5, s6, s7, s8, s9, s10⟩
                        go_simp
                        with_reducible rfl
                      rotate_left
                      · simp only [Act.put, List.setIfInBounds_toArray, List.set_cons_zero, List.set_cons_succ, i64_w, i32_w]
                        rfl
                      refine take_ (i := 5) (N := some 49) (v := ?_) (a' := ?_) #[true, true, true, true, true, true, false, false, false, false, false, false, false, false, false, false] rfl rfl (take_ofW HT_.out HW_.out (by kernel_rfl)) (fun _ _ _ h => h) (Or.inl ⟨by rfl, ?_⟩) hHeld ?_ ?_
                      rotate_left
                      · rintro w' ⟨s0, s1, s2, s3, s4, s5, s6, s7, s8, s9, s10⟩
                        go_simp
                        with_reducible rfl
                      rotate_left
                      · simp only [Act.put, List.setIfInBounds_toArray, List.set_cons_zero, List.set_cons_succ, i64_w, i32_w]
                        rfl
                      refine take_ (i := 7) (N := some 51) (v := ?_) (a' := ?_) #[true, true, true, true, true, true, false, true, false, false, false, false, false, false, false, false] rfl rfl (take_ofW HT_.out HW_.out (by kernel_rfl)) (fun _ _ _ h => h) (Or.inl ⟨by rfl, ?_⟩) hHeld ?_ ?_
                      rotate_left
                      · rintro w' ⟨s0, s1, s2, s3, s4, s5, s6, s7, s8, s9, s10⟩
                        go_simp
                        with_reducible rfl
                      rotate_left
                      · simp only [Act.put, List.setIfInBounds_toArray, List.set_cons_zero, List.set_cons_succ, i64_w, i32_w]
                        rfl
                      refine join_ (σ := Value × Value × Value × Nat) 2 #[true, true, true, true, true, true, true, true, true, true, true, true, true, true, false, false] (fun s_ => [(50, .agg #[.int .i64 t279, .int .i64 t280, s_.1]), (52, s_.2.1), (53, .tuple #[.agg #[.int .i64 t287, .int .i64 t288, s_.2.2.1], .int .i64 t292]), (11, .pointer (some ⟨s_.2.2.2, 0, none⟩)), (43, .tuple #[.agg #[.int .i64 t287, .int .i64 t288, s_.2.2.1], .int .i64 t292]), (54, .agg #[.int .i64 t287, .int .i64 t288, s_.2.2.1]), (55, .int .i64 t292)]) (fun s_ w' => (w'.cell? ⟨gb262, 0, none⟩ = some (.int .i64 a0_0) ∧ w'.cell? ⟨gb262, 1, none⟩ = some (.int .i64 a0_1) ∧ w'.cell? ⟨gb262, 2, none⟩ = some (.slice A0_2 l0_2.length c0_2) ∧ w'.cell? ⟨gb263, 0, none⟩ = some (.int .i64 a1_0) ∧ w'.cell? ⟨gb263, 1, none⟩ = some (.int .i64 a1_1) ∧ w'.cell? ⟨gb263, 2, none⟩ = some (.int .i64 a1_2) ∧ w'.cell? ⟨gb263, 3, none⟩ = some (.int .i64 a1_3) ∧ w'.cell? ⟨gb263, 4, none⟩ = some (.int .i64 a1_4) ∧ w'.cell? ⟨gb263, 5, none⟩ = some (.int .i64 a1_5) ∧ w'.cell? ⟨gb263, 6, none⟩ = some (.int .i64 a1_6) ∧ w'.cell? ⟨gb263, 7, none⟩ = some (.int .i64 a1_7)) ∧ (Kd.S k59 59 w' w.heap.size (fun k_ => some k_ ≠ (.slice Ao41 t274.length co41 : Value).ownBlock ∧ some k_ ≠ (s_.1 : Value).ownBlock ∧ some k_ ≠ (s_.2.1 : Value).ownBlock ∧ some k_ ≠ (s_.2.2.1 : Value).ownBlock) (.slice Ao21 t267.length co21) t267) ∧ (Kd.S k59 59 w' w.heap.size (fun k_ => some k_ ≠ (.slice Ao21 t267.length co21 : Value).ownBlock ∧ some k_ ≠ (s_.1 : Value).ownBlock ∧ some k_ ≠ (s_.2.1 : Value).ownBlock ∧ some k_ ≠ (s_.2.2.1 : Value).ownBlock) (.slice Ao41 t274.length co41) t274) ∧ (Kd.S k59 59 w' w.heap.size (fun k_ => some k_ ≠ (.slice Ao21 t267.length co21 : Value).ownBlock ∧ some k_ ≠ (.slice Ao41 t274.length co41 : Value).ownBlock ∧ some k_ ≠ (s_.2.1 : Value).ownBlock ∧ some k_ ≠ (s_.2.2.1 : Value).ownBlock) s_.1 t281) ∧ (Kd.R (Kd.int .i8) 69 w' w.heap.size (fun _ => True) s_.2.1 t284) ∧ (Kd.S k59 59 w' w.heap.size (fun k_ => some k_ ≠ (.slice Ao21 t267.length co21 : Value).ownBlock ∧ some k_ ≠ (.slice Ao41 t274.length co41 : Value).ownBlock ∧ some k_ ≠ (s_.1 : Value).ownBlock ∧ some k_ ≠ (s_.2.1 : Value).ownBlock) s_.2.2.1 t289) ∧ (w'.heap[gb262]? = some (.cells #[.int .i64 a0_0, .int .i64 a0_1, .slice A0_2 l0_2.length c0_2] 27 (0, 0))) ∧ (w'.heap[gb263]? = some (.cells #[.int .i64 a1_0, .int .i64 a1_1, .int .i64 a1_2, .int .i64 a1_3, .int .i64 a1_4, .int .i64 a1_5, .int .i64 a1_6, .int .i64 a1_7] 23 (0, 0))) ∧ (w'.heap[gb278]? = some (.cells #[.int .i64 t272, .int .i64 t273, .slice Ao41 t274.length co41] 27 (0, 0))) ∧ (w'.heap[s_.2.2.2]? = some (.cells #[.int .i64 0, .int .i64 0, .slice none 0 0] 27 (0, 0))) ∧ (w.heap.size ≤ s_.2.2.2) ∧ (w.heap.size ≤ s_.2.2.2) ∧ (gb262 ≠ s_.2.2.2) ∧ (s_.2.2.2 ≠ gb262) ∧ (gb263 ≠ s_.2.2.2) ∧ (s_.2.2.2 ≠ gb263) ∧ (gb278 ≠ s_.2.2.2) ∧ (s_.2.2.2 ≠ gb278) ∧ (Below w.heap.size w w')) ?_ ?_
                      rotate_left
                      · intro hCont
                        refine two_ (i := 6) (j := 13) (Ni := some 50) (Nj := some 11) #[true, true, true, true, true, true, true, true, false, false, false, false, false, false, false, false] #[true, true, true, true, true, true, false, true, false, false, false, false, false, true, false, false] rfl rfl rfl rfl (two_of HT_.out (by kernel_rfl)) (by decide) (by decide) (fun K hK => ?_) (fun K hK => ?_)
                        · skip
                          refine goes_ Try.func16 (by kernel_rfl) rfl #[.agg #[.int .i64 a0_0, .int .i64 a0_1, .slice A0_2 l0_2.length c0_2]] (by rfl) rfl rfl ar_ ?_
                          with_reducible refine (aviarylaw10_Own.calls a0_0 a0_1 _ _ l0_2 t279 t280 t281 _ ?side1 ?side2 A25.out).mono ?_
                          (case side1 => repeat (first | exact (Kd.C_below HR0_2.out HB.out) | (with_reducible refine Kd.C_alloc ?_ _) | (with_reducible refine Kd.C_drewN ?_ _) | (with_reducible refine Kd.C_drew ?_)))
                          (case side2 => exact HC0_2.out)
                          rintro e w44 ⟨v282, rfl, ho0, hb⟩
                          refine ⟨_, rfl, ?_⟩
                          have n0_ := Aside0.mk (Kd.S_elder' (by (with_reducible repeat (first | apply Kd.S_alloc | apply Kd.S_drewN | apply Kd.S_drew)); exact HO269.out) (Kd.S_base ho0) hb)
                          have n1_ := Aside0.mk (Kd.S_elder' (by (with_reducible repeat (first | apply Kd.S_alloc | apply Kd.S_drewN | apply Kd.S_drew)); exact HO276.out) (Kd.S_base ho0) hb)
                          have n2_ := Aside0.mk (Kd.S_lower (Kd.S_new' (Kd.S_new' ho0 (Kd.S_lt (by (with_reducible repeat (first | apply Kd.S_alloc | apply Kd.S_drewN | apply Kd.S_drew)); exact HO269.out))) (Kd.S_lt (by (with_reducible repeat (first | apply Kd.S_alloc | apply Kd.S_drewN | apply Kd.S_drew)); exact HO276.out))) (below_size by_))
                          have n3_ := Aside0.mk (blk_below (bkl_ BK262.out) hb)
                          have n4_ := Aside0.mk (blk_below (bkl_ BK263.out) hb)
                          have n5_ := Aside0.mk (blk_below (bkl_ BK278.out) hb)
                          have n6_ := Aside0.mk (below_step by_ hb)
                          clear HO269
                          clear HO276
                          clear BK262
                          clear BK263
                          clear BK278
                          clear HB
                          have HO269 := n0_
                          have HO276 := n1_
                          have HO283 := n2_
                          have BK262 := n3_
                          have BK263 := n4_
                          have BK278 := n5_
                          have HB := n6_
                          clear n0_ n1_ n2_ n3_ n4_ n5_ n6_
                          (try clear hb)
                          (try clear hb2)
                          (try clear hk)
                          (try clear hi)
                          (try clear ho0)
                          obtain ⟨Ao45, co45, eo45⟩ := Kd.S_slice HO283.out
                          (first | subst eo45 | (injection eo45 with f1_ f2_ f3_; have f4_ := f1_.symm; have f5_ := f3_.symm; clear f1_ f2_ f3_; subst f4_; subst f5_))
                          refine hK.out _ _ ⟨(blk_cell BK262.out 0).trans rfl, (blk_cell BK262.out 1).trans rfl, (blk_cell BK262.out 2).trans rfl, (blk_cell BK263.out 0).trans rfl, (blk_cell BK263.out 1).trans rfl, (blk_cell BK263.out 2).trans rfl, (blk_cell BK263.out 3).trans rfl, (blk_cell BK263.out 4).trans rfl, (blk_cell BK263.out 5).trans rfl, (blk_cell BK263.out 6).trans rfl, (blk_cell BK263.out 7).trans rfl⟩ (fun hHeld => ?_)
                          clear hK K
                          refine norm_ (a' := ?_) ?_ ?_
                          rotate_left
                          · show Act.put _ (some 50) _ = _
                            simp only [Act.put, List.setIfInBounds_toArray, List.set_cons_zero, List.set_cons_succ, i64_w, i32_w]
                            rfl
                          refine two_ (i := 8) (j := 13) (Ni := some 52) (Nj := some 11) #[true, true, true, true, true, true, true, true, true, false, false, false, false, false, false, false] #[true, true, true, true, true, true, true, true, false, false, false, false, false, true, false, false] rfl rfl rfl rfl (two_of HT_.out (by kernel_rfl)) (by decide) (by decide) (fun K hK => ?_) (fun K hK => ?_)
                          · skip
                            refine goes_ Try.func22 (by kernel_rfl) rfl #[.agg #[.int .i64 t279, .int .i64 t280, .slice Ao45 t281.length co45], .agg #[.int .i64 a1_0, .int .i64 a1_1, .int .i64 a1_2, .int .i64 a1_3, .int .i64 a1_4, .int .i64 a1_5, .int .i64 a1_6, .int .i64 a1_7]] (by rfl) rfl rfl ar_ ?_
                            with_reducible refine (graft_Flat.calls kj5 t279 t280 _ _ t281 a1_0 a1_1 a1_2 a1_3 a1_4 a1_5 a1_6 a1_7 t284 _ ?side1 ?side2 A26.out).mono ?_
                            (case side1 => repeat (first | exact (Kd.S_reads' HO283.out).2.2 | (with_reducible refine Kd.C_alloc ?_ _) | (with_reducible refine Kd.C_drewN ?_ _) | (with_reducible refine Kd.C_drew ?_)))
                            (case side2 => exact (Kd.S_reads' HO283.out).2.1)
                            rintro e w46 ⟨v285, rfl, ho0, hb⟩
                            refine ⟨_, rfl, ?_⟩
                            have n0_ := Aside0.mk (Kd.S_elder' (by (with_reducible repeat (first | apply Kd.S_alloc | apply Kd.S_drewN | apply Kd.S_drew)); exact HO269.out) (Kd.R_base ho0) hb)
                            have n1_ := Aside0.mk (Kd.S_elder' (by (with_reducible repeat (first | apply Kd.S_alloc | apply Kd.S_drewN | apply Kd.S_drew)); exact HO276.out) (Kd.R_base ho0) hb)
                            have n2_ := Aside0.mk (Kd.S_elder' (by (with_reducible repeat (first | apply Kd.S_alloc | apply Kd.S_drewN | apply Kd.S_drew)); exact HO283.out) (Kd.R_base ho0) hb)
                            have n3_ := Aside0.mk (Kd.R_lower ho0 (below_size by_))
                            have n4_ := Aside0.mk (blk_below (bkl_ BK262.out) hb)
                            have n5_ := Aside0.mk (blk_below (bkl_ BK263.out) hb)
                            have n6_ := Aside0.mk (blk_below (bkl_ BK278.out) hb)
                            have n7_ := Aside0.mk (below_step by_ hb)
                            clear HO269
                            clear HO276
                            clear HO283
                            clear BK262
                            clear BK263
                            clear BK278
                            clear HB
                            have HO269 := n0_
                            have HO276 := n1_
                            have HO283 := n2_
                            have HO286 := n3_
                            have BK262 := n4_
                            have BK263 := n5_
                            have BK278 := n6_
                            have HB := n7_
                            clear n0_ n1_ n2_ n3_ n4_ n5_ n6_ n7_
                            (try clear hb)
                            (try clear hb2)
                            (try clear hk)
                            (try clear hi)
                            (try clear ho0)
                            obtain ⟨Ao47, co47, eo47⟩ := Kd.R_slice HO286.out
                            (first | subst eo47 | (injection eo47 with f1_ f2_ f3_; have f4_ := f1_.symm; have f5_ := f3_.symm; clear f1_ f2_ f3_; subst f4_; subst f5_))
                            refine hK.out _ _ ⟨(blk_cell BK262.out 0).trans rfl, (blk_cell BK262.out 1).trans rfl, (blk_cell BK262.out 2).trans rfl, (blk_cell BK263.out 0).trans rfl, (blk_cell BK263.out 1).trans rfl, (blk_cell BK263.out 2).trans rfl, (blk_cell BK263.out 3).trans rfl, (blk_cell BK263.out 4).trans rfl, (blk_cell BK263.out 5).trans rfl, (blk_cell BK263.out 6).trans rfl, (blk_cell BK263.out 7).trans rfl⟩ (fun hHeld => ?_)
                            clear hK K
                            refine norm_ (a' := ?_) ?_ ?_
                            rotate_left
                            · show Act.put _ (some 52) _ = _
                              simp only [Act.put, List.setIfInBounds_toArray, List.set_cons_zero, List.set_cons_succ, i64_w, i32_w]
                              rfl
                            refine two_ (i := 9) (j := 13) (Ni := some 53) (Nj := some 11) #[true, true, true, true, true, true, true, true, true, true, false, false, false, false, false, false] #[true, true, true, true, true, true, true, true, true, false, false, false, false, true, false, false] rfl rfl rfl rfl (two_of HT_.out (by kernel_rfl)) (by decide) (by decide) (fun K hK => ?_) (fun K hK => ?_)
                            · skip
                              refine goes_ Try.func10 (by kernel_rfl) rfl #[.int .i64 a0_0, .int .i64 a0_1, .agg #[.int .i64 a1_0, .int .i64 a1_1, .int .i64 a1_2, .int .i64 a1_3, .int .i64 a1_4, .int .i64 a1_5, .int .i64 a1_6, .int .i64 a1_7], .slice Ao47 t284.length co47] (by rfl) rfl rfl ar_ ?_
                              with_reducible refine (graft_Shape.calls kj5 a0_0 a0_1 a1_0 a1_1 a1_2 a1_3 a1_4 a1_5 a1_6 a1_7 _ _ t284 t287 t288 t289 t292 _ ?side1 ?side2 A27.out).mono ?_
                              (case side1 => repeat (first | exact (Kd.R_reads' HO286.out).2.2 | (with_reducible refine Kd.C_alloc ?_ _) | (with_reducible refine Kd.C_drewN ?_ _) | (with_reducible refine Kd.C_drew ?_)))
                              (case side2 => exact (Kd.R_reads' HO286.out).2.1)
                              rintro e w48 ⟨v290, rfl, ho0, hb⟩
                              refine ⟨_, rfl, ?_⟩
                              have n0_ := Aside0.mk (Kd.S_elder' (by (with_reducible repeat (first | apply Kd.S_alloc | apply Kd.S_drewN | apply Kd.S_drew)); exact HO269.out) (Kd.S_base ho0) hb)
                              have n1_ := Aside0.mk (Kd.S_elder' (by (with_reducible repeat (first | apply Kd.S_alloc | apply Kd.S_drewN | apply Kd.S_drew)); exact HO276.out) (Kd.S_base ho0) hb)
                              have n2_ := Aside0.mk (Kd.S_elder' (by (with_reducible repeat (first | apply Kd.S_alloc | apply Kd.S_drewN | apply Kd.S_drew)); exact HO283.out) (Kd.S_base ho0) hb)
                              have n3_ := Aside0.mk (Kd.R_below (by (with_reducible repeat (first | apply Kd.R_alloc | apply Kd.R_drewN | apply Kd.R_drew)); exact HO286.out) hb)
                              have n4_ := Aside0.mk (Kd.S_lower (Kd.S_new' (Kd.S_new' (Kd.S_new' (Kd.S_new' ho0 (Kd.S_lt (by (with_reducible repeat (first | apply Kd.S_alloc | apply Kd.S_drewN | apply Kd.S_drew)); exact HO269.out))) (Kd.S_lt (by (with_reducible repeat (first | apply Kd.S_alloc | apply Kd.S_drewN | apply Kd.S_drew)); exact HO276.out))) (Kd.S_lt (by (with_reducible repeat (first | apply Kd.S_alloc | apply Kd.S_drewN | apply Kd.S_drew)); exact HO283.out))) (Kd.R_lt (by (with_reducible repeat (first | apply Kd.R_alloc | apply Kd.R_drewN | apply Kd.R_drew)); exact HO286.out))) (below_size by_))
                              have n5_ := Aside0.mk (blk_below (bkl_ BK262.out) hb)
                              have n6_ := Aside0.mk (blk_below (bkl_ BK263.out) hb)
                              have n7_ := Aside0.mk (blk_below (bkl_ BK278.out) hb)
                              have n8_ := Aside0.mk (below_step by_ hb)
                              clear HO269
                              clear HO276
                              clear HO283
                              clear HO286
                              clear BK262
                              clear BK263
                              clear BK278
                              clear HB
                              have HO269 := n0_
                              have HO276 := n1_
                              have HO283 := n2_
                              have HO286 := n3_
                              have HO291 := n4_
                              have BK262 := n5_
                              have BK263 := n6_
                              have BK278 := n7_
                              have HB := n8_
                              clear n0_ n1_ n2_ n3_ n4_ n5_ n6_ n7_ n8_
                              (try clear hb)
                              (try clear hb2)
                              (try clear hk)
                              (try clear hi)
                              (try clear ho0)
                              refine hK.out _ _ ⟨(blk_cell BK262.out 0).trans rfl, (blk_cell BK262.out 1).trans rfl, (blk_cell BK262.out 2).trans rfl, (blk_cell BK263.out 0).trans rfl, (blk_cell BK263.out 1).trans rfl, (blk_cell BK263.out 2).trans rfl, (blk_cell BK263.out 3).trans rfl, (blk_cell BK263.out 4).trans rfl, (blk_cell BK263.out 5).trans rfl, (blk_cell BK263.out 6).trans rfl, (blk_cell BK263.out 7).trans rfl⟩ (fun hHeld => ?_)
                              clear hK K
                              refine norm_ (a' := ?_) ?_ ?_
                              rotate_left
                              · show Act.put _ (some 53) _ = _
                                simp only [Act.put, List.setIfInBounds_toArray, List.set_cons_zero, List.set_cons_succ, i64_w, i32_w]
                                rfl
                              refine pure_ (i := 10) (N := some 43) (v := ?_) (a' := ?_) #[true, true, true, true, true, true, true, true, true, true, true, false, false, false, false, false] rfl rfl (any_of HT_.out (by kernel_rfl)) (fun _ _ _ h => h) (Or.inl ⟨by rfl, ?_⟩) ?_ ?_
                              rotate_left
                              · intro w'
                                go_simp
                                with_reducible rfl
                              rotate_left
                              · simp only [Act.put, List.setIfInBounds_toArray, List.set_cons_zero, List.set_cons_succ, i64_w, i32_w]
                                rfl
                              refine pure_ (i := 11) (N := some 54) (v := ?_) (a' := ?_) #[true, true, true, true, true, true, true, true, true, true, true, true, false, false, false, false] rfl rfl (any_of HT_.out (by kernel_rfl)) (fun _ _ _ h => h) (Or.inl ⟨by rfl, ?_⟩) ?_ ?_
                              rotate_left
                              · intro w'
                                go_simp
                                with_reducible rfl
                              rotate_left
                              · simp only [Act.put, List.setIfInBounds_toArray, List.set_cons_zero, List.set_cons_succ, i64_w, i32_w]
                                rfl
                              refine pure_ (i := 12) (N := some 55) (v := ?_) (a' := ?_) #[true, true, true, true, true, true, true, true, true, true, true, true, true, false, false, false] rfl rfl (any_of HT_.out (by kernel_rfl)) (fun _ _ _ h => h) (Or.inl ⟨by rfl, ?_⟩) ?_ ?_
                              rotate_left
                              · intro w'
                                go_simp
                                with_reducible rfl
                              rotate_left
                              · simp only [Act.put, List.setIfInBounds_toArray, List.set_cons_zero, List.set_cons_succ, i64_w, i32_w]
                                rfl
                              refine one_ (i := 13) (N := some 11) #[true, true, true, true, true, true, true, true, true, true, true, true, true, true, false, false] rfl rfl (one_of HT_.out (by kernel_rfl)) (by decide) (fun K hK => ?_)
                              refine box_step ?hg (N := 11) ?hd (cs := #[.int .i64 0, .int .i64 0, .slice none 0 0]) (t := 27) ?hr ?_; (case hd => rfl); (case hg => rfl); (case hr => first | (go_simp; done) | (go_simp; rfl))
                              intro gb293 hg w49 hbox hb
                              have n0_ := Aside0.mk (Kd.S_below (by (with_reducible repeat (first | apply Kd.S_alloc | apply Kd.S_drewN | apply Kd.S_drew)); exact HO269.out) hb)
                              have n1_ := Aside0.mk (Kd.S_below (by (with_reducible repeat (first | apply Kd.S_alloc | apply Kd.S_drewN | apply Kd.S_drew)); exact HO276.out) hb)
                              have n2_ := Aside0.mk (Kd.S_below (by (with_reducible repeat (first | apply Kd.S_alloc | apply Kd.S_drewN | apply Kd.S_drew)); exact HO283.out) hb)
                              have n3_ := Aside0.mk (Kd.R_below (by (with_reducible repeat (first | apply Kd.R_alloc | apply Kd.R_drewN | apply Kd.R_drew)); exact HO286.out) hb)
                              have n4_ := Aside0.mk (Kd.S_below (by (with_reducible repeat (first | apply Kd.S_alloc | apply Kd.S_drewN | apply Kd.S_drew)); exact HO291.out) hb)
                              have n5_ := Aside0.mk (blk_below (bkl_ BK262.out) hb)
                              have n6_ := Aside0.mk (blk_below (bkl_ BK263.out) hb)
                              have n7_ := Aside0.mk (blk_below (bkl_ BK278.out) hb)
                              have n8_ := Aside0.mk (below_step by_ hb)
                              have n9_ := Aside0.mk (hbox)
                              have n10_ := Aside0.mk ((by rw [hg]; exact (below_size by_) : w.heap.size ≤ gb293))
                              have n11_ := Aside0.mk ((by rw [hg]; exact (below_size by_) : w.heap.size ≤ gb293))
                              have n12_ := Aside0.mk ((by rw [hg]; exact Nat.ne_of_lt (blk_lt (bkl_ BK262.out)) : gb262 ≠ gb293))
                              have n13_ := Aside0.mk ((by rw [hg]; exact Nat.ne_of_gt (blk_lt (bkl_ BK262.out)) : gb293 ≠ gb262))
                              have n14_ := Aside0.mk ((by rw [hg]; exact Nat.ne_of_lt (blk_lt (bkl_ BK263.out)) : gb263 ≠ gb293))
                              have n15_ := Aside0.mk ((by rw [hg]; exact Nat.ne_of_gt (blk_lt (bkl_ BK263.out)) : gb293 ≠ gb263))
                              have n16_ := Aside0.mk ((by rw [hg]; exact Nat.ne_of_lt (blk_lt (bkl_ BK278.out)) : gb278 ≠ gb293))
                              have n17_ := Aside0.mk ((by rw [hg]; exact Nat.ne_of_gt (blk_lt (bkl_ BK278.out)) : gb293 ≠ gb278))
                              clear HO269
                              clear HO276
                              clear HO283
                              clear HO286
                              clear HO291
                              clear BK262
                              clear BK263
                              clear BK278
                              clear HB
                              have HO269 := n0_
                              have HO276 := n1_
                              have HO283 := n2_
                              have HO286 := n3_
                              have HO291 := n4_
                              have BK262 := n5_
                              have BK263 := n6_
                              have BK278 := n7_
                              have HB := n8_
                              have BK293 := n9_
                              have GW293 := n10_
                              have GE293 := n11_
                              have NB262_293 := n12_
                              have NB293_262 := n13_
                              have NB263_293 := n14_
                              have NB293_263 := n15_
                              have NB278_293 := n16_
                              have NB293_278 := n17_
                              clear n0_ n1_ n2_ n3_ n4_ n5_ n6_ n7_ n8_ n9_ n10_ n11_ n12_ n13_ n14_ n15_ n16_ n17_
                              clear hb hbox hg
                              refine hK.out _ _ ⟨(blk_cell BK262.out 0).trans rfl, (blk_cell BK262.out 1).trans rfl, (blk_cell BK262.out 2).trans rfl, (blk_cell BK263.out 0).trans rfl, (blk_cell BK263.out 1).trans rfl, (blk_cell BK263.out 2).trans rfl, (blk_cell BK263.out 3).trans rfl, (blk_cell BK263.out 4).trans rfl, (blk_cell BK263.out 5).trans rfl, (blk_cell BK263.out 6).trans rfl, (blk_cell BK263.out 7).trans rfl⟩ (fun hHeld => ?_)
                              clear hK K
                              refine norm_ (a' := ?_) ?_ ?_
                              rotate_left
                              · show Act.put _ (some 11) _ = _
                                simp only [Act.put, List.setIfInBounds_toArray, List.set_cons_zero, List.set_cons_succ, i64_w, i32_w]
                                rfl
                              exact norm_ (by simp only [putAll, Act.put, List.setIfInBounds_toArray, List.set_cons_zero, List.set_cons_succ]) (hCont (.slice Ao45 t281.length co45, .slice Ao47 t284.length co47, v290, gb293) _ ⟨hHeld, (by (with_reducible repeat (first | apply Kd.S_alloc | apply Kd.S_drewN | apply Kd.S_drew)); exact Kd.S_mono HO269.out (fun _ hk => ⟨hk.1.1.1, ⟨hk.1.1.2, ⟨hk.1.2, hk.2⟩⟩⟩)), (by (with_reducible repeat (first | apply Kd.S_alloc | apply Kd.S_drewN | apply Kd.S_drew)); exact Kd.S_mono HO276.out (fun _ hk => ⟨hk.1.1.1, ⟨hk.1.1.2, ⟨hk.1.2, hk.2⟩⟩⟩)), (by (with_reducible repeat (first | apply Kd.S_alloc | apply Kd.S_drewN | apply Kd.S_drew)); exact Kd.S_mono HO283.out (fun _ hk => ⟨hk.1.1.1.2, ⟨hk.1.1.2, ⟨hk.1.2, hk.2⟩⟩⟩)), (by (with_reducible repeat (first | apply Kd.R_alloc | apply Kd.R_drewN | apply Kd.R_drew)); exact HO286.out), (by (with_reducible repeat (first | apply Kd.S_alloc | apply Kd.S_drewN | apply Kd.S_drew)); exact Kd.S_mono HO291.out (fun _ hk => ⟨hk.1.1.1.2, ⟨hk.1.1.2, ⟨hk.1.2, hk.2⟩⟩⟩)), (bkl_ BK262.out), (bkl_ BK263.out), (bkl_ BK278.out), (bkl_ BK293.out), GW293.out, GE293.out, NB262_293.out, NB293_262.out, NB263_293.out, NB293_263.out, NB278_293.out, NB293_278.out, by_⟩)
                            · skip
                              refine box_step ?hg (N := 11) ?hd (cs := #[.int .i64 0, .int .i64 0, .slice none 0 0]) (t := 27) ?hr ?_; (case hd => rfl); (case hg => rfl); (case hr => first | (go_simp; done) | (go_simp; rfl))
                              intro gb293 hg w47 hbox hb
                              have n0_ := Aside0.mk (Kd.S_below (by (with_reducible repeat (first | apply Kd.S_alloc | apply Kd.S_drewN | apply Kd.S_drew)); exact HO269.out) hb)
                              have n1_ := Aside0.mk (Kd.S_below (by (with_reducible repeat (first | apply Kd.S_alloc | apply Kd.S_drewN | apply Kd.S_drew)); exact HO276.out) hb)
                              have n2_ := Aside0.mk (Kd.S_below (by (with_reducible repeat (first | apply Kd.S_alloc | apply Kd.S_drewN | apply Kd.S_drew)); exact HO283.out) hb)
                              have n3_ := Aside0.mk (Kd.R_below (by (with_reducible repeat (first | apply Kd.R_alloc | apply Kd.R_drewN | apply Kd.R_drew)); exact HO286.out) hb)
                              have n4_ := Aside0.mk (blk_below (bkl_ BK262.out) hb)
                              have n5_ := Aside0.mk (blk_below (bkl_ BK263.out) hb)
                              have n6_ := Aside0.mk (blk_below (bkl_ BK278.out) hb)
                              have n7_ := Aside0.mk (below_step by_ hb)
                              have n8_ := Aside0.mk (hbox)
                              have n9_ := Aside0.mk ((by rw [hg]; exact (below_size by_) : w.heap.size ≤ gb293))
                              have n10_ := Aside0.mk ((by rw [hg]; exact (below_size by_) : w.heap.size ≤ gb293))
                              have n11_ := Aside0.mk ((by rw [hg]; exact Nat.ne_of_lt (blk_lt (bkl_ BK262.out)) : gb262 ≠ gb293))
                              have n12_ := Aside0.mk ((by rw [hg]; exact Nat.ne_of_gt (blk_lt (bkl_ BK262.out)) : gb293 ≠ gb262))
                              have n13_ := Aside0.mk ((by rw [hg]; exact Nat.ne_of_lt (blk_lt (bkl_ BK263.out)) : gb263 ≠ gb293))
                              have n14_ := Aside0.mk ((by rw [hg]; exact Nat.ne_of_gt (blk_lt (bkl_ BK263.out)) : gb293 ≠ gb263))
                              have n15_ := Aside0.mk ((by rw [hg]; exact Nat.ne_of_lt (blk_lt (bkl_ BK278.out)) : gb278 ≠ gb293))
                              have n16_ := Aside0.mk ((by rw [hg]; exact Nat.ne_of_gt (blk_lt (bkl_ BK278.out)) : gb293 ≠ gb278))
                              clear HO269
                              clear HO276
                              clear HO283
                              clear HO286
                              clear BK262
                              clear BK263
                              clear BK278
                              clear HB
                              have HO269 := n0_
                              have HO276 := n1_
                              have HO283 := n2_
                              have HO286 := n3_
                              have BK262 := n4_
                              have BK263 := n5_
                              have BK278 := n6_
                              have HB := n7_
                              have BK293 := n8_
                              have GW293 := n9_
                              have GE293 := n10_
                              have NB262_293 := n11_
                              have NB293_262 := n12_
                              have NB263_293 := n13_
                              have NB293_263 := n14_
                              have NB278_293 := n15_
                              have NB293_278 := n16_
                              clear n0_ n1_ n2_ n3_ n4_ n5_ n6_ n7_ n8_ n9_ n10_ n11_ n12_ n13_ n14_ n15_ n16_
                              clear hb hbox hg
                              obtain ⟨Ao48, co48, eo48⟩ := Kd.R_slice HO286.out
                              (first | subst eo48 | (injection eo48 with f1_ f2_ f3_; have f4_ := f1_.symm; have f5_ := f3_.symm; clear f1_ f2_ f3_; subst f4_; subst f5_))
                              refine hK.out _ _ ⟨(blk_cell BK262.out 0).trans rfl, (blk_cell BK262.out 1).trans rfl, (blk_cell BK262.out 2).trans rfl, (blk_cell BK263.out 0).trans rfl, (blk_cell BK263.out 1).trans rfl, (blk_cell BK263.out 2).trans rfl, (blk_cell BK263.out 3).trans rfl, (blk_cell BK263.out 4).trans rfl, (blk_cell BK263.out 5).trans rfl, (blk_cell BK263.out 6).trans rfl, (blk_cell BK263.out 7).trans rfl⟩ (fun hHeld => ?_)
                              clear hK K
                              refine norm_ (a' := ?_) ?_ ?_
                              rotate_left
                              · show Act.put _ (some 11) _ = _
                                simp only [Act.put, List.setIfInBounds_toArray, List.set_cons_zero, List.set_cons_succ, i64_w, i32_w]
                                rfl
                              refine one_ (i := 9) (N := some 53) #[true, true, true, true, true, true, true, true, true, true, false, false, false, true, false, false] rfl rfl (one_of HT_.out (by kernel_rfl)) (by decide) (fun K hK => ?_)
                              refine goes_ Try.func10 (by kernel_rfl) rfl #[.int .i64 a0_0, .int .i64 a0_1, .agg #[.int .i64 a1_0, .int .i64 a1_1, .int .i64 a1_2, .int .i64 a1_3, .int .i64 a1_4, .int .i64 a1_5, .int .i64 a1_6, .int .i64 a1_7], .slice Ao48 t284.length co48] (by rfl) rfl rfl ar_ ?_
                              with_reducible refine (graft_Shape.calls kj5 a0_0 a0_1 a1_0 a1_1 a1_2 a1_3 a1_4 a1_5 a1_6 a1_7 _ _ t284 t287 t288 t289 t292 _ ?side1 ?side2 A27.out).mono ?_
                              (case side1 => repeat (first | exact (Kd.R_reads' HO286.out).2.2 | (with_reducible refine Kd.C_alloc ?_ _) | (with_reducible refine Kd.C_drewN ?_ _) | (with_reducible refine Kd.C_drew ?_)))
                              (case side2 => exact (Kd.R_reads' HO286.out).2.1)
                              rintro e w49 ⟨v290, rfl, ho0, hb⟩
                              refine ⟨_, rfl, ?_⟩
                              have n0_ := Aside0.mk (Kd.S_elder' (by (with_reducible repeat (first | apply Kd.S_alloc | apply Kd.S_drewN | apply Kd.S_drew)); exact HO269.out) (Kd.S_base ho0) hb)
                              have n1_ := Aside0.mk (Kd.S_elder' (by (with_reducible repeat (first | apply Kd.S_alloc | apply Kd.S_drewN | apply Kd.S_drew)); exact HO276.out) (Kd.S_base ho0) hb)
                              have n2_ := Aside0.mk (Kd.S_elder' (by (with_reducible repeat (first | apply Kd.S_alloc | apply Kd.S_drewN | apply Kd.S_drew)); exact HO283.out) (Kd.S_base ho0) hb)
                              have n3_ := Aside0.mk (Kd.R_below (by (with_reducible repeat (first | apply Kd.R_alloc | apply Kd.R_drewN | apply Kd.R_drew)); exact HO286.out) hb)
                              have n4_ := Aside0.mk (Kd.S_lower (Kd.S_new' (Kd.S_new' (Kd.S_new' (Kd.S_new' ho0 (Kd.S_lt (by (with_reducible repeat (first | apply Kd.S_alloc | apply Kd.S_drewN | apply Kd.S_drew)); exact HO269.out))) (Kd.S_lt (by (with_reducible repeat (first | apply Kd.S_alloc | apply Kd.S_drewN | apply Kd.S_drew)); exact HO276.out))) (Kd.S_lt (by (with_reducible repeat (first | apply Kd.S_alloc | apply Kd.S_drewN | apply Kd.S_drew)); exact HO283.out))) (Kd.R_lt (by (with_reducible repeat (first | apply Kd.R_alloc | apply Kd.R_drewN | apply Kd.R_drew)); exact HO286.out))) (below_size by_))
                              have n5_ := Aside0.mk (blk_below (bkl_ BK262.out) hb)
                              have n6_ := Aside0.mk (blk_below (bkl_ BK263.out) hb)
                              have n7_ := Aside0.mk (blk_below (bkl_ BK278.out) hb)
                              have n8_ := Aside0.mk (blk_below (bkl_ BK293.out) hb)
                              have n9_ := Aside0.mk (below_step by_ hb)
                              clear HO269
                              clear HO276
                              clear HO283
                              clear HO286
                              clear BK262
                              clear BK263
                              clear BK278
                              clear BK293
                              clear HB
                              have HO269 := n0_
                              have HO276 := n1_
                              have HO283 := n2_
                              have HO286 := n3_
                              have HO291 := n4_
                              have BK262 := n5_
                              have BK263 := n6_
                              have BK278 := n7_
                              have BK293 := n8_
                              have HB := n9_
                              clear n0_ n1_ n2_ n3_ n4_ n5_ n6_ n7_ n8_ n9_
                              (try clear hb)
                              (try clear hb2)
                              (try clear hk)
                              (try clear hi)
                              (try clear ho0)
                              refine hK.out _ _ ⟨(blk_cell BK262.out 0).trans rfl, (blk_cell BK262.out 1).trans rfl, (blk_cell BK262.out 2).trans rfl, (blk_cell BK263.out 0).trans rfl, (blk_cell BK263.out 1).trans rfl, (blk_cell BK263.out 2).trans rfl, (blk_cell BK263.out 3).trans rfl, (blk_cell BK263.out 4).trans rfl, (blk_cell BK263.out 5).trans rfl, (blk_cell BK263.out 6).trans rfl, (blk_cell BK263.out 7).trans rfl⟩ (fun hHeld => ?_)
                              clear hK K
                              refine norm_ (a' := ?_) ?_ ?_
                              rotate_left
                              · show Act.put _ (some 53) _ = _
                                simp only [Act.put, List.setIfInBounds_toArray, List.set_cons_zero, List.set_cons_succ, i64_w, i32_w]
                                rfl
                              refine pure_ (i := 10) (N := some 43) (v := ?_) (a' := ?_) #[true, true, true, true, true, true, true, true, true, true, true, false, false, true, false, false] rfl rfl (any_of HT_.out (by kernel_rfl)) (fun _ _ _ h => h) (Or.inl ⟨by rfl, ?_⟩) ?_ ?_
                              rotate_left
                              · intro w'
                                go_simp
                                with_reducible rfl
                              rotate_left
                              · simp only [Act.put, List.setIfInBounds_toArray, List.set_cons_zero, List.set_cons_succ, i64_w, i32_w]
                                rfl
                              refine pure_ (i := 11) (N := some 54) (v := ?_) (a' := ?_) #[true, true, true, true, true, true, true, true, true, true, true, true, false, true, false, false] rfl rfl (any_of HT_.out (by kernel_rfl)) (fun _ _ _ h => h) (Or.inl ⟨by rfl, ?_⟩) ?_ ?_
                              rotate_left
                              · intro w'
                                go_simp
                                with_reducible rfl
                              rotate_left
                              · simp only [Act.put, List.setIfInBounds_toArray, List.set_cons_zero, List.set_cons_succ, i64_w, i32_w]
                                rfl
                              refine pure_ (i := 12) (N := some 55) (v := ?_) (a' := ?_) #[true, true, true, true, true, true, true, true, true, true, true, true, true, true, false, false] rfl rfl (any_of HT_.out (by kernel_rfl)) (fun _ _ _ h => h) (Or.inl ⟨by rfl, ?_⟩) ?_ ?_
                              rotate_left
                              · intro w'
                                go_simp
                                with_reducible rfl
                              rotate_left
                              · simp only [Act.put, List.setIfInBounds_toArray, List.set_cons_zero, List.set_cons_succ, i64_w, i32_w]
                                rfl
                              exact norm_ (by simp only [putAll, Act.put, List.setIfInBounds_toArray, List.set_cons_zero, List.set_cons_succ]) (hCont (.slice Ao45 t281.length co45, .slice Ao48 t284.length co48, v290, gb293) _ ⟨hHeld, (by (with_reducible repeat (first | apply Kd.S_alloc | apply Kd.S_drewN | apply Kd.S_drew)); exact Kd.S_mono HO269.out (fun _ hk => ⟨hk.1.1.1, ⟨hk.1.1.2, ⟨hk.1.2, hk.2⟩⟩⟩)), (by (with_reducible repeat (first | apply Kd.S_alloc | apply Kd.S_drewN | apply Kd.S_drew)); exact Kd.S_mono HO276.out (fun _ hk => ⟨hk.1.1.1, ⟨hk.1.1.2, ⟨hk.1.2, hk.2⟩⟩⟩)), (by (with_reducible repeat (first | apply Kd.S_alloc | apply Kd.S_drewN | apply Kd.S_drew)); exact Kd.S_mono HO283.out (fun _ hk => ⟨hk.1.1.1.2, ⟨hk.1.1.2, ⟨hk.1.2, hk.2⟩⟩⟩)), (by (with_reducible repeat (first | apply Kd.R_alloc | apply Kd.R_drewN | apply Kd.R_drew)); exact HO286.out), (by (with_reducible repeat (first | apply Kd.S_alloc | apply Kd.S_drewN | apply Kd.S_drew)); exact Kd.S_mono HO291.out (fun _ hk => ⟨hk.1.1.1.2, ⟨hk.1.1.2, ⟨hk.1.2, hk.2⟩⟩⟩)), (bkl_ BK262.out), (bkl_ BK263.out), (bkl_ BK278.out), (bkl_ BK293.out), GW293.out, GE293.out, NB262_293.out, NB293_262.out, NB263_293.out, NB293_263.out, NB278_293.out, NB293_278.out, by_⟩)
                          · skip
                            refine box_step ?hg (N := 11) ?hd (cs := #[.int .i64 0, .int .i64 0, .slice none 0 0]) (t := 27) ?hr ?_; (case hd => rfl); (case hg => rfl); (case hr => first | (go_simp; done) | (go_simp; rfl))
                            intro gb293 hg w45 hbox hb
                            have n0_ := Aside0.mk (Kd.S_below (by (with_reducible repeat (first | apply Kd.S_alloc | apply Kd.S_drewN | apply Kd.S_drew)); exact HO269.out) hb)
                            have n1_ := Aside0.mk (Kd.S_below (by (with_reducible repeat (first | apply Kd.S_alloc | apply Kd.S_drewN | apply Kd.S_drew)); exact HO276.out) hb)
                            have n2_ := Aside0.mk (Kd.S_below (by (with_reducible repeat (first | apply Kd.S_alloc | apply Kd.S_drewN | apply Kd.S_drew)); exact HO283.out) hb)
                            have n3_ := Aside0.mk (blk_below (bkl_ BK262.out) hb)
                            have n4_ := Aside0.mk (blk_below (bkl_ BK263.out) hb)
                            have n5_ := Aside0.mk (blk_below (bkl_ BK278.out) hb)
                            have n6_ := Aside0.mk (below_step by_ hb)
                            have n7_ := Aside0.mk (hbox)
                            have n8_ := Aside0.mk ((by rw [hg]; exact (below_size by_) : w.heap.size ≤ gb293))
                            have n9_ := Aside0.mk ((by rw [hg]; exact (below_size by_) : w.heap.size ≤ gb293))
                            have n10_ := Aside0.mk ((by rw [hg]; exact Nat.ne_of_lt (blk_lt (bkl_ BK262.out)) : gb262 ≠ gb293))
                            have n11_ := Aside0.mk ((by rw [hg]; exact Nat.ne_of_gt (blk_lt (bkl_ BK262.out)) : gb293 ≠ gb262))
                            have n12_ := Aside0.mk ((by rw [hg]; exact Nat.ne_of_lt (blk_lt (bkl_ BK263.out)) : gb263 ≠ gb293))
                            have n13_ := Aside0.mk ((by rw [hg]; exact Nat.ne_of_gt (blk_lt (bkl_ BK263.out)) : gb293 ≠ gb263))
                            have n14_ := Aside0.mk ((by rw [hg]; exact Nat.ne_of_lt (blk_lt (bkl_ BK278.out)) : gb278 ≠ gb293))
                            have n15_ := Aside0.mk ((by rw [hg]; exact Nat.ne_of_gt (blk_lt (bkl_ BK278.out)) : gb293 ≠ gb278))
                            clear HO269
                            clear HO276
                            clear HO283
                            clear BK262
                            clear BK263
                            clear BK278
                            clear HB
                            have HO269 := n0_
                            have HO276 := n1_
                            have HO283 := n2_
                            have BK262 := n3_
                            have BK263 := n4_
                            have BK278 := n5_
                            have HB := n6_
                            have BK293 := n7_
                            have GW293 := n8_
                            have GE293 := n9_
                            have NB262_293 := n10_
                            have NB293_262 := n11_
                            have NB263_293 := n12_
                            have NB293_263 := n13_
                            have NB278_293 := n14_
                            have NB293_278 := n15_
                            clear n0_ n1_ n2_ n3_ n4_ n5_ n6_ n7_ n8_ n9_ n10_ n11_ n12_ n13_ n14_ n15_
                            clear hb hbox hg
                            obtain ⟨Ao46, co46, eo46⟩ := Kd.S_slice HO283.out
                            (first | subst eo46 | (injection eo46 with f1_ f2_ f3_; have f4_ := f1_.symm; have f5_ := f3_.symm; clear f1_ f2_ f3_; subst f4_; subst f5_))
                            refine hK.out _ _ ⟨(blk_cell BK262.out 0).trans rfl, (blk_cell BK262.out 1).trans rfl, (blk_cell BK262.out 2).trans rfl, (blk_cell BK263.out 0).trans rfl, (blk_cell BK263.out 1).trans rfl, (blk_cell BK263.out 2).trans rfl, (blk_cell BK263.out 3).trans rfl, (blk_cell BK263.out 4).trans rfl, (blk_cell BK263.out 5).trans rfl, (blk_cell BK263.out 6).trans rfl, (blk_cell BK263.out 7).trans rfl⟩ (fun hHeld => ?_)
                            clear hK K
                            refine norm_ (a' := ?_) ?_ ?_
                            rotate_left
                            · show Act.put _ (some 11) _ = _
                              simp only [Act.put, List.setIfInBounds_toArray, List.set_cons_zero, List.set_cons_succ, i64_w, i32_w]
                              rfl
                            refine one_ (i := 8) (N := some 52) #[true, true, true, true, true, true, true, true, true, false, false, false, false, true, false, false] rfl rfl (one_of HT_.out (by kernel_rfl)) (by decide) (fun K hK => ?_)
                            refine goes_ Try.func22 (by kernel_rfl) rfl #[.agg #[.int .i64 t279, .int .i64 t280, .slice Ao46 t281.length co46], .agg #[.int .i64 a1_0, .int .i64 a1_1, .int .i64 a1_2, .int .i64 a1_3, .int .i64 a1_4, .int .i64 a1_5, .int .i64 a1_6, .int .i64 a1_7]] (by rfl) rfl rfl ar_ ?_
                            with_reducible refine (graft_Flat.calls kj5 t279 t280 _ _ t281 a1_0 a1_1 a1_2 a1_3 a1_4 a1_5 a1_6 a1_7 t284 _ ?side1 ?side2 A26.out).mono ?_
                            (case side1 => repeat (first | exact (Kd.S_reads' HO283.out).2.2 | (with_reducible refine Kd.C_alloc ?_ _) | (with_reducible refine Kd.C_drewN ?_ _) | (with_reducible refine Kd.C_drew ?_)))
                            (case side2 => exact (Kd.S_reads' HO283.out).2.1)
                            rintro e w47 ⟨v285, rfl, ho0, hb⟩
                            refine ⟨_, rfl, ?_⟩
                            have n0_ := Aside0.mk (Kd.S_elder' (by (with_reducible repeat (first | apply Kd.S_alloc | apply Kd.S_drewN | apply Kd.S_drew)); exact HO269.out) (Kd.R_base ho0) hb)
                            have n1_ := Aside0.mk (Kd.S_elder' (by (with_reducible repeat (first | apply Kd.S_alloc | apply Kd.S_drewN | apply Kd.S_drew)); exact HO276.out) (Kd.R_base ho0) hb)
                            have n2_ := Aside0.mk (Kd.S_elder' (by (with_reducible repeat (first | apply Kd.S_alloc | apply Kd.S_drewN | apply Kd.S_drew)); exact HO283.out) (Kd.R_base ho0) hb)
                            have n3_ := Aside0.mk (Kd.R_lower ho0 (below_size by_))
                            have n4_ := Aside0.mk (blk_below (bkl_ BK262.out) hb)
                            have n5_ := Aside0.mk (blk_below (bkl_ BK263.out) hb)
                            have n6_ := Aside0.mk (blk_below (bkl_ BK278.out) hb)
                            have n7_ := Aside0.mk (blk_below (bkl_ BK293.out) hb)
                            have n8_ := Aside0.mk (below_step by_ hb)
                            clear HO269
                            clear HO276
                            clear HO283
                            clear BK262
                            clear BK263
                            clear BK278
                            clear BK293
                            clear HB
                            have HO269 := n0_
                            have HO276 := n1_
                            have HO283 := n2_
                            have HO286 := n3_
                            have BK262 := n4_
                            have BK263 := n5_
                            have BK278 := n6_
                            have BK293 := n7_
                            have HB := n8_
                            clear n0_ n1_ n2_ n3_ n4_ n5_ n6_ n7_ n8_
                            (try clear hb)
                            (try clear hb2)
                            (try clear hk)
                            (try clear hi)
                            (try clear ho0)
                            obtain ⟨Ao48, co48, eo48⟩ := Kd.R_slice HO286.out
                            (first | subst eo48 | (injection eo48 with f1_ f2_ f3_; have f4_ := f1_.symm; have f5_ := f3_.symm; clear f1_ f2_ f3_; subst f4_; subst f5_))
                            refine hK.out _ _ ⟨(blk_cell BK262.out 0).trans rfl, (blk_cell BK262.out 1).trans rfl, (blk_cell BK262.out 2).trans rfl, (blk_cell BK263.out 0).trans rfl, (blk_cell BK263.out 1).trans rfl, (blk_cell BK263.out 2).trans rfl, (blk_cell BK263.out 3).trans rfl, (blk_cell BK263.out 4).trans rfl, (blk_cell BK263.out 5).trans rfl, (blk_cell BK263.out 6).trans rfl, (blk_cell BK263.out 7).trans rfl⟩ (fun hHeld => ?_)
                            clear hK K
                            refine norm_ (a' := ?_) ?_ ?_
                            rotate_left
                            · show Act.put _ (some 52) _ = _
                              simp only [Act.put, List.setIfInBounds_toArray, List.set_cons_zero, List.set_cons_succ, i64_w, i32_w]
                              rfl
                            refine one_ (i := 9) (N := some 53) #[true, true, true, true, true, true, true, true, true, true, false, false, false, true, false, false] rfl rfl (one_of HT_.out (by kernel_rfl)) (by decide) (fun K hK => ?_)
                            refine goes_ Try.func10 (by kernel_rfl) rfl #[.int .i64 a0_0, .int .i64 a0_1, .agg #[.int .i64 a1_0, .int .i64 a1_1, .int .i64 a1_2, .int .i64 a1_3, .int .i64 a1_4, .int .i64 a1_5, .int .i64 a1_6, .int .i64 a1_7], .slice Ao48 t284.length co48] (by rfl) rfl rfl ar_ ?_
                            with_reducible refine (graft_Shape.calls kj5 a0_0 a0_1 a1_0 a1_1 a1_2 a1_3 a1_4 a1_5 a1_6 a1_7 _ _ t284 t287 t288 t289 t292 _ ?side1 ?side2 A27.out).mono ?_
                            (case side1 => repeat (first | exact (Kd.R_reads' HO286.out).2.2 | (with_reducible refine Kd.C_alloc ?_ _) | (with_reducible refine Kd.C_drewN ?_ _) | (with_reducible refine Kd.C_drew ?_)))
                            (case side2 => exact (Kd.R_reads' HO286.out).2.1)
                            rintro e w49 ⟨v290, rfl, ho0, hb⟩
                            refine ⟨_, rfl, ?_⟩
                            have n0_ := Aside0.mk (Kd.S_elder' (by (with_reducible repeat (first | apply Kd.S_alloc | apply Kd.S_drewN | apply Kd.S_drew)); exact HO269.out) (Kd.S_base ho0) hb)
                            have n1_ := Aside0.mk (Kd.S_elder' (by (with_reducible repeat (first | apply Kd.S_alloc | apply Kd.S_drewN | apply Kd.S_drew)); exact HO276.out) (Kd.S_base ho0) hb)
                            have n2_ := Aside0.mk (Kd.S_elder' (by (with_reducible repeat (first | apply Kd.S_alloc | apply Kd.S_drewN | apply Kd.S_drew)); exact HO283.out) (Kd.S_base ho0) hb)
                            have n3_ := Aside0.mk (Kd.R_below (by (with_reducible repeat (first | apply Kd.R_alloc | apply Kd.R_drewN | apply Kd.R_drew)); exact HO286.out) hb)
                            have n4_ := Aside0.mk (Kd.S_lower (Kd.S_new' (Kd.S_new' (Kd.S_new' (Kd.S_new' ho0 (Kd.S_lt (by (with_reducible repeat (first | apply Kd.S_alloc | apply Kd.S_drewN | apply Kd.S_drew)); exact HO269.out))) (Kd.S_lt (by (with_reducible repeat (first | apply Kd.S_alloc | apply Kd.S_drewN | apply Kd.S_drew)); exact HO276.out))) (Kd.S_lt (by (with_reducible repeat (first | apply Kd.S_alloc | apply Kd.S_drewN | apply Kd.S_drew)); exact HO283.out))) (Kd.R_lt (by (with_reducible repeat (first | apply Kd.R_alloc | apply Kd.R_drewN | apply Kd.R_drew)); exact HO286.out))) (below_size by_))
                            have n5_ := Aside0.mk (blk_below (bkl_ BK262.out) hb)
                            have n6_ := Aside0.mk (blk_below (bkl_ BK263.out) hb)
                            have n7_ := Aside0.mk (blk_below (bkl_ BK278.out) hb)
                            have n8_ := Aside0.mk (blk_below (bkl_ BK293.out) hb)
                            have n9_ := Aside0.mk (below_step by_ hb)
                            clear HO269
                            clear HO276
                            clear HO283
                            clear HO286
                            clear BK262
                            clear BK263
                            clear BK278
                            clear BK293
                            clear HB
                            have HO269 := n0_
                            have HO276 := n1_
                            have HO283 := n2_
                            have HO286 := n3_
                            have HO291 := n4_
                            have BK262 := n5_
                            have BK263 := n6_
                            have BK278 := n7_
                            have BK293 := n8_
                            have HB := n9_
                            clear n0_ n1_ n2_ n3_ n4_ n5_ n6_ n7_ n8_ n9_
                            (try clear hb)
                            (try clear hb2)
                            (try clear hk)
                            (try clear hi)
                            (try clear ho0)
                            refine hK.out _ _ ⟨(blk_cell BK262.out 0).trans rfl, (blk_cell BK262.out 1).trans rfl, (blk_cell BK262.out 2).trans rfl, (blk_cell BK263.out 0).trans rfl, (blk_cell BK263.out 1).trans rfl, (blk_cell BK263.out 2).trans rfl, (blk_cell BK263.out 3).trans rfl, (blk_cell BK263.out 4).trans rfl, (blk_cell BK263.out 5).trans rfl, (blk_cell BK263.out 6).trans rfl, (blk_cell BK263.out 7).trans rfl⟩ (fun hHeld => ?_)
                            clear hK K
                            refine norm_ (a' := ?_) ?_ ?_
                            rotate_left
                            · show Act.put _ (some 53) _ = _
                              simp only [Act.put, List.setIfInBounds_toArray, List.set_cons_zero, List.set_cons_succ, i64_w, i32_w]
                              rfl
                            refine pure_ (i := 10) (N := some 43) (v := ?_) (a' := ?_) #[true, true, true, true, true, true, true, true, true, true, true, false, false, true, false, false] rfl rfl (any_of HT_.out (by kernel_rfl)) (fun _ _ _ h => h) (Or.inl ⟨by rfl, ?_⟩) ?_ ?_
                            rotate_left
                            · intro w'
                              go_simp
                              with_reducible rfl
                            rotate_left
                            · simp only [Act.put, List.setIfInBounds_toArray, List.set_cons_zero, List.set_cons_succ, i64_w, i32_w]
                              rfl
                            refine pure_ (i := 11) (N := some 54) (v := ?_) (a' := ?_) #[true, true, true, true, true, true, true, true, true, true, true, true, false, true, false, false] rfl rfl (any_of HT_.out (by kernel_rfl)) (fun _ _ _ h => h) (Or.inl ⟨by rfl, ?_⟩) ?_ ?_
                            rotate_left
                            · intro w'
                              go_simp
                              with_reducible rfl
                            rotate_left
                            · simp only [Act.put, List.setIfInBounds_toArray, List.set_cons_zero, List.set_cons_succ, i64_w, i32_w]
                              rfl
                            refine pure_ (i := 12) (N := some 55) (v := ?_) (a' := ?_) #[true, true, true, true, true, true, true, true, true, true, true, true, true, true, false, false] rfl rfl (any_of HT_.out (by kernel_rfl)) (fun _ _ _ h => h) (Or.inl ⟨by rfl, ?_⟩) ?_ ?_
                            rotate_left
                            · intro w'
                              go_simp
                              with_reducible rfl
                            rotate_left
                            · simp only [Act.put, List.setIfInBounds_toArray, List.set_cons_zero, List.set_cons_succ, i64_w, i32_w]
                              rfl
                            exact norm_ (by simp only [putAll, Act.put, List.setIfInBounds_toArray, List.set_cons_zero, List.set_cons_succ]) (hCont (.slice Ao46 t281.length co46, .slice Ao48 t284.length co48, v290, gb293) _ ⟨hHeld, (by (with_reducible repeat (first | apply Kd.S_alloc | apply Kd.S_drewN | apply Kd.S_drew)); exact Kd.S_mono HO269.out (fun _ hk => ⟨hk.1.1.1, ⟨hk.1.1.2, ⟨hk.1.2, hk.2⟩⟩⟩)), (by (with_reducible repeat (first | apply Kd.S_alloc | apply Kd.S_drewN | apply Kd.S_drew)); exact Kd.S_mono HO276.out (fun _ hk => ⟨hk.1.1.1, ⟨hk.1.1.2, ⟨hk.1.2, hk.2⟩⟩⟩)), (by (with_reducible repeat (first | apply Kd.S_alloc | apply Kd.S_drewN | apply Kd.S_drew)); exact Kd.S_mono HO283.out (fun _ hk => ⟨hk.1.1.1.2, ⟨hk.1.1.2, ⟨hk.1.2, hk.2⟩⟩⟩)), (by (with_reducible repeat (first | apply Kd.R_alloc | apply Kd.R_drewN | apply Kd.R_drew)); exact HO286.out), (by (with_reducible repeat (first | apply Kd.S_alloc | apply Kd.S_drewN | apply Kd.S_drew)); exact Kd.S_mono HO291.out (fun _ hk => ⟨hk.1.1.1.2, ⟨hk.1.1.2, ⟨hk.1.2, hk.2⟩⟩⟩)), (bkl_ BK262.out), (bkl_ BK263.out), (bkl_ BK278.out), (bkl_ BK293.out), GW293.out, GE293.out, NB262_293.out, NB293_262.out, NB263_293.out, NB293_263.out, NB278_293.out, NB293_278.out, by_⟩)
                        · skip
                          refine box_step ?hg (N := 11) ?hd (cs := #[.int .i64 0, .int .i64 0, .slice none 0 0]) (t := 27) ?hr ?_; (case hd => rfl); (case hg => rfl); (case hr => first | (go_simp; done) | (go_simp; rfl))
                          intro gb293 hg w44 hbox hb
                          have n0_ := Aside0.mk (Kd.S_below (by (with_reducible repeat (first | apply Kd.S_alloc | apply Kd.S_drewN | apply Kd.S_drew)); exact HO269.out) hb)
                          have n1_ := Aside0.mk (Kd.S_below (by (with_reducible repeat (first | apply Kd.S_alloc | apply Kd.S_drewN | apply Kd.S_drew)); exact HO276.out) hb)
                          have n2_ := Aside0.mk (blk_below (bkl_ BK262.out) hb)
                          have n3_ := Aside0.mk (blk_below (bkl_ BK263.out) hb)
                          have n4_ := Aside0.mk (blk_below (bkl_ BK278.out) hb)
                          have n5_ := Aside0.mk (below_step by_ hb)
                          have n6_ := Aside0.mk (hbox)
                          have n7_ := Aside0.mk ((by rw [hg]; exact (below_size by_) : w.heap.size ≤ gb293))
                          have n8_ := Aside0.mk ((by rw [hg]; exact (below_size by_) : w.heap.size ≤ gb293))
                          have n9_ := Aside0.mk ((by rw [hg]; exact Nat.ne_of_lt (blk_lt (bkl_ BK262.out)) : gb262 ≠ gb293))
                          have n10_ := Aside0.mk ((by rw [hg]; exact Nat.ne_of_gt (blk_lt (bkl_ BK262.out)) : gb293 ≠ gb262))
                          have n11_ := Aside0.mk ((by rw [hg]; exact Nat.ne_of_lt (blk_lt (bkl_ BK263.out)) : gb263 ≠ gb293))
                          have n12_ := Aside0.mk ((by rw [hg]; exact Nat.ne_of_gt (blk_lt (bkl_ BK263.out)) : gb293 ≠ gb263))
                          have n13_ := Aside0.mk ((by rw [hg]; exact Nat.ne_of_lt (blk_lt (bkl_ BK278.out)) : gb278 ≠ gb293))
                          have n14_ := Aside0.mk ((by rw [hg]; exact Nat.ne_of_gt (blk_lt (bkl_ BK278.out)) : gb293 ≠ gb278))
                          clear HO269
                          clear HO276
                          clear BK262
                          clear BK263
                          clear BK278
                          clear HB
                          have HO269 := n0_
                          have HO276 := n1_
                          have BK262 := n2_
                          have BK263 := n3_
                          have BK278 := n4_
                          have HB := n5_
                          have BK293 := n6_
                          have GW293 := n7_
                          have GE293 := n8_
                          have NB262_293 := n9_
                          have NB293_262 := n10_
                          have NB263_293 := n11_
                          have NB293_263 := n12_
                          have NB278_293 := n13_
                          have NB293_278 := n14_
                          clear n0_ n1_ n2_ n3_ n4_ n5_ n6_ n7_ n8_ n9_ n10_ n11_ n12_ n13_ n14_
                          clear hb hbox hg
                          refine hK.out _ _ ⟨(blk_cell BK262.out 0).trans rfl, (blk_cell BK262.out 1).trans rfl, (blk_cell BK262.out 2).trans rfl, (blk_cell BK263.out 0).trans rfl, (blk_cell BK263.out 1).trans rfl, (blk_cell BK263.out 2).trans rfl, (blk_cell BK263.out 3).trans rfl, (blk_cell BK263.out 4).trans rfl, (blk_cell BK263.out 5).trans rfl, (blk_cell BK263.out 6).trans rfl, (blk_cell BK263.out 7).trans rfl⟩ (fun hHeld => ?_)
                          clear hK K
                          refine norm_ (a' := ?_) ?_ ?_
                          rotate_left
                          · show Act.put _ (some 11) _ = _
                            simp only [Act.put, List.setIfInBounds_toArray, List.set_cons_zero, List.set_cons_succ, i64_w, i32_w]
                            rfl
                          refine one_ (i := 6) (N := some 50) #[true, true, true, true, true, true, true, true, false, false, false, false, false, true, false, false] rfl rfl (one_of HT_.out (by kernel_rfl)) (by decide) (fun K hK => ?_)
                          refine goes_ Try.func16 (by kernel_rfl) rfl #[.agg #[.int .i64 a0_0, .int .i64 a0_1, .slice A0_2 l0_2.length c0_2]] (by rfl) rfl rfl ar_ ?_
                          with_reducible refine (aviarylaw10_Own.calls a0_0 a0_1 _ _ l0_2 t279 t280 t281 _ ?side1 ?side2 A25.out).mono ?_
                          (case side1 => repeat (first | exact (Kd.C_below HR0_2.out HB.out) | (with_reducible refine Kd.C_alloc ?_ _) | (with_reducible refine Kd.C_drewN ?_ _) | (with_reducible refine Kd.C_drew ?_)))
                          (case side2 => exact HC0_2.out)
                          rintro e w45 ⟨v282, rfl, ho0, hb⟩
                          refine ⟨_, rfl, ?_⟩
                          have n0_ := Aside0.mk (Kd.S_elder' (by (with_reducible repeat (first | apply Kd.S_alloc | apply Kd.S_drewN | apply Kd.S_drew)); exact HO269.out) (Kd.S_base ho0) hb)
                          have n1_ := Aside0.mk (Kd.S_elder' (by (with_reducible repeat (first | apply Kd.S_alloc | apply Kd.S_drewN | apply Kd.S_drew)); exact HO276.out) (Kd.S_base ho0) hb)
                          have n2_ := Aside0.mk (Kd.S_lower (Kd.S_new' (Kd.S_new' ho0 (Kd.S_lt (by (with_reducible repeat (first | apply Kd.S_alloc | apply Kd.S_drewN | apply Kd.S_drew)); exact HO269.out))) (Kd.S_lt (by (with_reducible repeat (first | apply Kd.S_alloc | apply Kd.S_drewN | apply Kd.S_drew)); exact HO276.out))) (below_size by_))
                          have n3_ := Aside0.mk (blk_below (bkl_ BK262.out) hb)
                          have n4_ := Aside0.mk (blk_below (bkl_ BK263.out) hb)
                          have n5_ := Aside0.mk (blk_below (bkl_ BK278.out) hb)
                          have n6_ := Aside0.mk (blk_below (bkl_ BK293.out) hb)
                          have n7_ := Aside0.mk (below_step by_ hb)
                          clear HO269
                          clear HO276
                          clear BK262
                          clear BK263
                          clear BK278
                          clear BK293
                          clear HB
                          have HO269 := n0_
                          have HO276 := n1_
                          have HO283 := n2_
                          have BK262 := n3_
                          have BK263 := n4_
                          have BK278 := n5_
                          have BK293 := n6_
                          have HB := n7_
                          clear n0_ n1_ n2_ n3_ n4_ n5_ n6_ n7_
                          (try clear hb)
                          (try clear hb2)
                          (try clear hk)
                          (try clear hi)
                          (try clear ho0)
                          obtain ⟨Ao46, co46, eo46⟩ := Kd.S_slice HO283.out
                          (first | subst eo46 | (injection eo46 with f1_ f2_ f3_; have f4_ := f1_.symm; have f5_ := f3_.symm; clear f1_ f2_ f3_; subst f4_; subst f5_))
                          refine hK.out _ _ ⟨(blk_cell BK262.out 0).trans rfl, (blk_cell BK262.out 1).trans rfl, (blk_cell BK262.out 2).trans rfl, (blk_cell BK263.out 0).trans rfl, (blk_cell BK263.out 1).trans rfl, (blk_cell BK263.out 2).trans rfl, (blk_cell BK263.out 3).trans rfl, (blk_cell BK263.out 4).trans rfl, (blk_cell BK263.out 5).trans rfl, (blk_cell BK263.out 6).trans rfl, (blk_cell BK263.out 7).trans rfl⟩ (fun hHeld => ?_)
                          clear hK K
                          refine norm_ (a' := ?_) ?_ ?_
                          rotate_left
                          · show Act.put _ (some 50) _ = _
                            simp only [Act.put, List.setIfInBounds_toArray, List.set_cons_zero, List.set_cons_succ, i64_w, i32_w]
                            rfl
                          refine one_ (i := 8) (N := some 52) #[true, true, true, true, true, true, true, true, true, false, false, false, false, true, false, false] rfl rfl (one_of HT_.out (by kernel_rfl)) (by decide) (fun K hK => ?_)
                          refine goes_ Try.func22 (by kernel_rfl) rfl #[.agg #[.int .i64 t279, .int .i64 t280, .slice Ao46 t281.length co46], .agg #[.int .i64 a1_0, .int .i64 a1_1, .int .i64 a1_2, .int .i64 a1_3, .int .i64 a1_4, .int .i64 a1_5, .int .i64 a1_6, .int .i64 a1_7]] (by rfl) rfl rfl ar_ ?_
                          with_reducible refine (graft_Flat.calls kj5 t279 t280 _ _ t281 a1_0 a1_1 a1_2 a1_3 a1_4 a1_5 a1_6 a1_7 t284 _ ?side1 ?side2 A26.out).mono ?_
                          (case side1 => repeat (first | exact (Kd.S_reads' HO283.out).2.2 | (with_reducible refine Kd.C_alloc ?_ _) | (with_reducible refine Kd.C_drewN ?_ _) | (with_reducible refine Kd.C_drew ?_)))
                          (case side2 => exact (Kd.S_reads' HO283.out).2.1)
                          rintro e w47 ⟨v285, rfl, ho0, hb⟩
                          refine ⟨_, rfl, ?_⟩
                          have n0_ := Aside0.mk (Kd.S_elder' (by (with_reducible repeat (first | apply Kd.S_alloc | apply Kd.S_drewN | apply Kd.S_drew)); exact HO269.out) (Kd.R_base ho0) hb)
                          have n1_ := Aside0.mk (Kd.S_elder' (by (with_reducible repeat (first | apply Kd.S_alloc | apply Kd.S_drewN | apply Kd.S_drew)); exact HO276.out) (Kd.R_base ho0) hb)
                          have n2_ := Aside0.mk (Kd.S_elder' (by (with_reducible repeat (first | apply Kd.S_alloc | apply Kd.S_drewN | apply Kd.S_drew)); exact HO283.out) (Kd.R_base ho0) hb)
                          have n3_ := Aside0.mk (Kd.R_lower ho0 (below_size by_))
                          have n4_ := Aside0.mk (blk_below (bkl_ BK262.out) hb)
                          have n5_ := Aside0.mk (blk_below (bkl_ BK263.out) hb)
                          have n6_ := Aside0.mk (blk_below (bkl_ BK278.out) hb)
                          have n7_ := Aside0.mk (blk_below (bkl_ BK293.out) hb)
                          have n8_ := Aside0.mk (below_step by_ hb)
                          clear HO269
                          clear HO276
                          clear HO283
                          clear BK262
                          clear BK263
                          clear BK278
                          clear BK293
                          clear HB
                          have HO269 := n0_
                          have HO276 := n1_
                          have HO283 := n2_
                          have HO286 := n3_
                          have BK262 := n4_
                          have BK263 := n5_
                          have BK278 := n6_
                          have BK293 := n7_
                          have HB := n8_
                          clear n0_ n1_ n2_ n3_ n4_ n5_ n6_ n7_ n8_
                          (try clear hb)
                          (try clear hb2)
                          (try clear hk)
                          (try clear hi)
                          (try clear ho0)
                          obtain ⟨Ao48, co48, eo48⟩ := Kd.R_slice HO286.out
                          (first | subst eo48 | (injection eo48 with f1_ f2_ f3_; have f4_ := f1_.symm; have f5_ := f3_.symm; clear f1_ f2_ f3_; subst f4_; subst f5_))
                          refine hK.out _ _ ⟨(blk_cell BK262.out 0).trans rfl, (blk_cell BK262.out 1).trans rfl, (blk_cell BK262.out 2).trans rfl, (blk_cell BK263.out 0).trans rfl, (blk_cell BK263.out 1).trans rfl, (blk_cell BK263.out 2).trans rfl, (blk_cell BK263.out 3).trans rfl, (blk_cell BK263.out 4).trans rfl, (blk_cell BK263.out 5).trans rfl, (blk_cell BK263.out 6).trans rfl, (blk_cell BK263.out 7).trans rfl⟩ (fun hHeld => ?_)
                          clear hK K
                          refine norm_ (a' := ?_) ?_ ?_
                          rotate_left
                          · show Act.put _ (some 52) _ = _
                            simp only [Act.put, List.setIfInBounds_toArray, List.set_cons_zero, List.set_cons_succ, i64_w, i32_w]
                            rfl
                          refine one_ (i := 9) (N := some 53) #[true, true, true, true, true, true, true, true, true, true, false, false, false, true, false, false] rfl rfl (one_of HT_.out (by kernel_rfl)) (by decide) (fun K hK => ?_)
                          refine goes_ Try.func10 (by kernel_rfl) rfl #[.int .i64 a0_0, .int .i64 a0_1, .agg #[.int .i64 a1_0, .int .i64 a1_1, .int .i64 a1_2, .int .i64 a1_3, .int .i64 a1_4, .int .i64 a1_5, .int .i64 a1_6, .int .i64 a1_7], .slice Ao48 t284.length co48] (by rfl) rfl rfl ar_ ?_
                          with_reducible refine (graft_Shape.calls kj5 a0_0 a0_1 a1_0 a1_1 a1_2 a1_3 a1_4 a1_5 a1_6 a1_7 _ _ t284 t287 t288 t289 t292 _ ?side1 ?side2 A27.out).mono ?_
                          (case side1 => repeat (first | exact (Kd.R_reads' HO286.out).2.2 | (with_reducible refine Kd.C_alloc ?_ _) | (with_reducible refine Kd.C_drewN ?_ _) | (with_reducible refine Kd.C_drew ?_)))
                          (case side2 => exact (Kd.R_reads' HO286.out).2.1)
                          rintro e w49 ⟨v290, rfl, ho0, hb⟩
                          refine ⟨_, rfl, ?_⟩
                          have n0_ := Aside0.mk (Kd.S_elder' (by (with_reducible repeat (first | apply Kd.S_alloc | apply Kd.S_drewN | apply Kd.S_drew)); exact HO269.out) (Kd.S_base ho0) hb)
                          have n1_ := Aside0.mk (Kd.S_elder' (by (with_reducible repeat (first | apply Kd.S_alloc | apply Kd.S_drewN | apply Kd.S_drew)); exact HO276.out) (Kd.S_base ho0) hb)
                          have n2_ := Aside0.mk (Kd.S_elder' (by (with_reducible repeat (first | apply Kd.S_alloc | apply Kd.S_drewN | apply Kd.S_drew)); exact HO283.out) (Kd.S_base ho0) hb)
                          have n3_ := Aside0.mk (Kd.R_below (by (with_reducible repeat (first | apply Kd.R_alloc | apply Kd.R_drewN | apply Kd.R_drew)); exact HO286.out) hb)
                          have n4_ := Aside0.mk (Kd.S_lower (Kd.S_new' (Kd.S_new' (Kd.S_new' (Kd.S_new' ho0 (Kd.S_lt (by (with_reducible repeat (first | apply Kd.S_alloc | apply Kd.S_drewN | apply Kd.S_drew)); exact HO269.out))) (Kd.S_lt (by (with_reducible repeat (first | apply Kd.S_alloc | apply Kd.S_drewN | apply Kd.S_drew)); exact HO276.out))) (Kd.S_lt (by (with_reducible repeat (first | apply Kd.S_alloc | apply Kd.S_drewN | apply Kd.S_drew)); exact HO283.out))) (Kd.R_lt (by (with_reducible repeat (first | apply Kd.R_alloc | apply Kd.R_drewN | apply Kd.R_drew)); exact HO286.out))) (below_size by_))
                          have n5_ := Aside0.mk (blk_below (bkl_ BK262.out) hb)
                          have n6_ := Aside0.mk (blk_below (bkl_ BK263.out) hb)
                          have n7_ := Aside0.mk (blk_below (bkl_ BK278.out) hb)
                          have n8_ := Aside0.mk (blk_below (bkl_ BK293.out) hb)
                          have n9_ := Aside0.mk (below_step by_ hb)
                          clear HO269
                          clear HO276
                          clear HO283
                          clear HO286
                          clear BK262
                          clear BK263
                          clear BK278
                          clear BK293
                          clear HB
                          have HO269 := n0_
                          have HO276 := n1_
                          have HO283 := n2_
                          have HO286 := n3_
                          have HO291 := n4_
                          have BK262 := n5_
                          have BK263 := n6_
                          have BK278 := n7_
                          have BK293 := n8_
                          have HB := n9_
                          clear n0_ n1_ n2_ n3_ n4_ n5_ n6_ n7_ n8_ n9_
                          (try clear hb)
                          (try clear hb2)
                          (try clear hk)
                          (try clear hi)
                          (try clear ho0)
                          refine hK.out _ _ ⟨(blk_cell BK262.out 0).trans rfl, (blk_cell BK262.out 1).trans rfl, (blk_cell BK262.out 2).trans rfl, (blk_cell BK263.out 0).trans rfl, (blk_cell BK263.out 1).trans rfl, (blk_cell BK263.out 2).trans rfl, (blk_cell BK263.out 3).trans rfl, (blk_cell BK263.out 4).trans rfl, (blk_cell BK263.out 5).trans rfl, (blk_cell BK263.out 6).trans rfl, (blk_cell BK263.out 7).trans rfl⟩ (fun hHeld => ?_)
                          clear hK K
                          refine norm_ (a' := ?_) ?_ ?_
                          rotate_left
                          · show Act.put _ (some 53) _ = _
                            simp only [Act.put, List.setIfInBounds_toArray, List.set_cons_zero, List.set_cons_succ, i64_w, i32_w]
                            rfl
                          refine pure_ (i := 10) (N := some 43) (v := ?_) (a' := ?_) #[true, true, true, true, true, true, true, true, true, true, true, false, false, true, false, false] rfl rfl (any_of HT_.out (by kernel_rfl)) (fun _ _ _ h => h) (Or.inl ⟨by rfl, ?_⟩) ?_ ?_
                          rotate_left
                          · intro w'
                            go_simp
                            with_reducible rfl
                          rotate_left
                          · simp only [Act.put, List.setIfInBounds_toArray, List.set_cons_zero, List.set_cons_succ, i64_w, i32_w]
                            rfl
                          refine pure_ (i := 11) (N := some 54) (v := ?_) (a' := ?_) #[true, true, true, true, true, true, true, true, true, true, true, true, false, true, false, false] rfl rfl (any_of HT_.out (by kernel_rfl)) (fun _ _ _ h => h) (Or.inl ⟨by rfl, ?_⟩) ?_ ?_
                          rotate_left
                          · intro w'
                            go_simp
                            with_reducible rfl
                          rotate_left
                          · simp only [Act.put, List.setIfInBounds_toArray, List.set_cons_zero, List.set_cons_succ, i64_w, i32_w]
                            rfl
                          refine pure_ (i := 12) (N := some 55) (v := ?_) (a' := ?_) #[true, true, true, true, true, true, true, true, true, true, true, true, true, true, false, false] rfl rfl (any_of HT_.out (by kernel_rfl)) (fun _ _ _ h => h) (Or.inl ⟨by rfl, ?_⟩) ?_ ?_
                          rotate_left
                          · intro w'
                            go_simp
                            with_reducible rfl
                          rotate_left
                          · simp only [Act.put, List.setIfInBounds_toArray, List.set_cons_zero, List.set_cons_succ, i64_w, i32_w]
                            rfl
                          exact norm_ (by simp only [putAll, Act.put, List.setIfInBounds_toArray, List.set_cons_zero, List.set_cons_succ]) (hCont (.slice Ao46 t281.length co46, .slice Ao48 t284.length co48, v290, gb293) _ ⟨hHeld, (by (with_reducible repeat (first | apply Kd.S_alloc | apply Kd.S_drewN | apply Kd.S_drew)); exact Kd.S_mono HO269.out (fun _ hk => ⟨hk.1.1.1, ⟨hk.1.1.2, ⟨hk.1.2, hk.2⟩⟩⟩)), (by (with_reducible repeat (first | apply Kd.S_alloc | apply Kd.S_drewN | apply Kd.S_drew)); exact Kd.S_mono HO276.out (fun _ hk => ⟨hk.1.1.1, ⟨hk.1.1.2, ⟨hk.1.2, hk.2⟩⟩⟩)), (by (with_reducible repeat (first | apply Kd.S_alloc | apply Kd.S_drewN | apply Kd.S_drew)); exact Kd.S_mono HO283.out (fun _ hk => ⟨hk.1.1.1.2, ⟨hk.1.1.2, ⟨hk.1.2, hk.2⟩⟩⟩)), (by (with_reducible repeat (first | apply Kd.R_alloc | apply Kd.R_drewN | apply Kd.R_drew)); exact HO286.out), (by (with_reducible repeat (first | apply Kd.S_alloc | apply Kd.S_drewN | apply Kd.S_drew)); exact Kd.S_mono HO291.out (fun _ hk => ⟨hk.1.1.1.2, ⟨hk.1.1.2, ⟨hk.1.2, hk.2⟩⟩⟩)), (bkl_ BK262.out), (bkl_ BK263.out), (bkl_ BK278.out), (bkl_ BK293.out), GW293.out, GE293.out, NB262_293.out, NB293_262.out, NB263_293.out, NB293_263.out, NB278_293.out, NB293_278.out, by_⟩)
                      rintro ⟨v282, v285, v290, gb293⟩ w50 ⟨hS_, h0_, h1_, h2_, h3_, h4_, h5_, h6_, h7_, h8_, h9_, h10_, h11_, h12_, h13_, h14_, h15_, h16_, h17_⟩
                      have n0_ : Aside0 (Kd.S k59 59 w50 w.heap.size (fun k_ => some k_ ≠ (.slice Ao41 t274.length co41 : Value).ownBlock ∧ some k_ ≠ (v282 : Value).ownBlock ∧ some k_ ≠ (v285 : Value).ownBlock ∧ some k_ ≠ (v290 : Value).ownBlock) (.slice Ao21 t267.length co21) t267) := ⟨h0_⟩
                      have n1_ : Aside0 (Kd.S k59 59 w50 w.heap.size (fun k_ => some k_ ≠ (.slice Ao21 t267.length co21 : Value).ownBlock ∧ some k_ ≠ (v282 : Value).ownBlock ∧ some k_ ≠ (v285 : Value).ownBlock ∧ some k_ ≠ (v290 : Value).ownBlock) (.slice Ao41 t274.length co41) t274) := ⟨h1_⟩
                      have n2_ : Aside0 (Kd.S k59 59 w50 w.heap.size (fun k_ => some k_ ≠ (.slice Ao21 t267.length co21 : Value).ownBlock ∧ some k_ ≠ (.slice Ao41 t274.length co41 : Value).ownBlock ∧ some k_ ≠ (v285 : Value).ownBlock ∧ some k_ ≠ (v290 : Value).ownBlock) v282 t281) := ⟨h2_⟩
                      have n3_ : Aside0 (Kd.R (Kd.int .i8) 69 w50 w.heap.size (fun _ => True) v285 t284) := ⟨h3_⟩
                      have n4_ : Aside0 (Kd.S k59 59 w50 w.heap.size (fun k_ => some k_ ≠ (.slice Ao21 t267.length co21 : Value).ownBlock ∧ some k_ ≠ (.slice Ao41 t274.length co41 : Value).ownBlock ∧ some k_ ≠ (v282 : Value).ownBlock ∧ some k_ ≠ (v285 : Value).ownBlock) v290 t289) := ⟨h4_⟩
                      have n5_ : Aside0 (w50.heap[gb262]? = some (.cells #[.int .i64 a0_0, .int .i64 a0_1, .slice A0_2 l0_2.length c0_2] 27 (0, 0))) := ⟨h5_⟩
                      have n6_ : Aside0 (w50.heap[gb263]? = some (.cells #[.int .i64 a1_0, .int .i64 a1_1, .int .i64 a1_2, .int .i64 a1_3, .int .i64 a1_4, .int .i64 a1_5, .int .i64 a1_6, .int .i64 a1_7] 23 (0, 0))) := ⟨h6_⟩
                      have n7_ : Aside0 (w50.heap[gb278]? = some (.cells #[.int .i64 t272, .int .i64 t273, .slice Ao41 t274.length co41] 27 (0, 0))) := ⟨h7_⟩
                      have n8_ : Aside0 (w50.heap[gb293]? = some (.cells #[.int .i64 0, .int .i64 0, .slice none 0 0] 27 (0, 0))) := ⟨h8_⟩
                      have n9_ : Aside0 (w.heap.size ≤ gb293) := ⟨h9_⟩
                      have n10_ : Aside0 (w.heap.size ≤ gb293) := ⟨h10_⟩
                      have n11_ : Aside0 (gb262 ≠ gb293) := ⟨h11_⟩
                      have n12_ : Aside0 (gb293 ≠ gb262) := ⟨h12_⟩
                      have n13_ : Aside0 (gb263 ≠ gb293) := ⟨h13_⟩
                      have n14_ : Aside0 (gb293 ≠ gb263) := ⟨h14_⟩
                      have n15_ : Aside0 (gb278 ≠ gb293) := ⟨h15_⟩
                      have n16_ : Aside0 (gb293 ≠ gb278) := ⟨h16_⟩
                      have n17_ : Aside0 (Below w.heap.size w w50) := ⟨h17_⟩
                      clear HO269
                      clear HO276
                      clear BK262
                      clear BK263
                      clear BK278
                      clear HB
                      clear h0_ h1_ h2_ h3_ h4_ h5_ h6_ h7_ h8_ h9_ h10_ h11_ h12_ h13_ h14_ h15_ h16_ h17_
                      have HO269 := n0_
                      have HO276 := n1_
                      have HO283 := n2_
                      have HO286 := n3_
                      have HO291 := n4_
                      have BK262 := n5_
                      have BK263 := n6_
                      have BK278 := n7_
                      have BK293 := n8_
                      have GW293 := n9_
                      have GE293 := n10_
                      have NB262_293 := n11_
                      have NB293_262 := n12_
                      have NB263_293 := n13_
                      have NB293_263 := n14_
                      have NB278_293 := n15_
                      have NB293_278 := n16_
                      have HB := n17_
                      clear n0_ n1_ n2_ n3_ n4_ n5_ n6_ n7_ n8_ n9_ n10_ n11_ n12_ n13_ n14_ n15_ n16_ n17_
                      have hHeld : w50.cell? ⟨gb262, 0, none⟩ = some (.int .i64 a0_0) ∧ w50.cell? ⟨gb262, 1, none⟩ = some (.int .i64 a0_1) ∧ w50.cell? ⟨gb262, 2, none⟩ = some (.slice A0_2 l0_2.length c0_2) ∧ w50.cell? ⟨gb263, 0, none⟩ = some (.int .i64 a1_0) ∧ w50.cell? ⟨gb263, 1, none⟩ = some (.int .i64 a1_1) ∧ w50.cell? ⟨gb263, 2, none⟩ = some (.int .i64 a1_2) ∧ w50.cell? ⟨gb263, 3, none⟩ = some (.int .i64 a1_3) ∧ w50.cell? ⟨gb263, 4, none⟩ = some (.int .i64 a1_4) ∧ w50.cell? ⟨gb263, 5, none⟩ = some (.int .i64 a1_5) ∧ w50.cell? ⟨gb263, 6, none⟩ = some (.int .i64 a1_6) ∧ w50.cell? ⟨gb263, 7, none⟩ = some (.int .i64 a1_7) := hS_
                      obtain ⟨Ao53, co53, eo53⟩ := Kd.S_slice HO291.out
                      (first | subst eo53 | (injection eo53 with f1_ f2_ f3_; have f4_ := f1_.symm; have f5_ := f3_.symm; clear f1_ f2_ f3_; subst f4_; subst f5_))
                      refine norm_ (a' := ?_) ?_ ?_
                      rotate_left
                      · simp only [putAll, Act.put, List.setIfInBounds_toArray, List.set_cons_zero, List.set_cons_succ]
                        rfl
                      refine one_ (i := 14) (N := none) #[true, true, true, true, true, true, true, true, true, true, true, true, true, true, true, false] rfl rfl (one_of HT_.out (by kernel_rfl)) (by decide) (fun K hK => ?_)
                      have hs51 : w50.cell? ⟨gb293, 0, none⟩ = some (.int .i64 0) := (blk_cell BK293.out 0).trans rfl
                      have hfs51 := blk_frozen BK293.out 0
                      have hns51_0 := NB262_293.out
                      have hns51_1 := NB263_293.out
                      have hns51_2 := NB278_293.out
                      have hms51_0 := NB293_262.out
                      have hms51_1 := NB293_263.out
                      have hms51_2 := NB293_278.out
                      have hs52 : w50.cell? ⟨gb293, 1, none⟩ = some (.int .i64 0) := (blk_cell BK293.out 1).trans rfl
                      have hfs52 := blk_frozen BK293.out 1
                      have hns52_0 := NB262_293.out
                      have hns52_1 := NB263_293.out
                      have hns52_2 := NB278_293.out
                      have hms52_0 := NB293_262.out
                      have hms52_1 := NB293_263.out
                      have hms52_2 := NB293_278.out
                      have hs54 : w50.cell? ⟨gb293, 2, none⟩ = some (.slice none 0 0) := (blk_cell BK293.out 2).trans rfl
                      have hfs54 := blk_frozen BK293.out 2
                      have hns54_0 := NB262_293.out
                      have hns54_1 := NB263_293.out
                      have hns54_2 := NB278_293.out
                      have hms54_0 := NB293_262.out
                      have hms54_1 := NB293_263.out
                      have hms54_2 := NB293_278.out
                      refine skip_ (w1 := ?_) (by rfl) rfl ?_ ?_
                      rotate_left
                      · go_simp
                        rfl
                      refine hK.out _ _ ⟨((cell_far (p := ⟨gb293, _, none⟩) NB262_293.out _).trans (((cell_far (p := ⟨gb293, _, none⟩) NB262_293.out _).trans (((cell_far (p := ⟨gb293, _, none⟩) NB262_293.out _).trans (hHeld.1)))))), ((cell_far (p := ⟨gb293, _, none⟩) NB262_293.out _).trans (((cell_far (p := ⟨gb293, _, none⟩) NB262_293.out _).trans (((cell_far (p := ⟨gb293, _, none⟩) NB262_293.out _).trans (hHeld.2.1)))))), ((cell_far (p := ⟨gb293, _, none⟩) NB262_293.out _).trans (((cell_far (p := ⟨gb293, _, none⟩) NB262_293.out _).trans (((cell_far (p := ⟨gb293, _, none⟩) NB262_293.out _).trans (hHeld.2.2.1)))))), ((cell_far (p := ⟨gb293, _, none⟩) NB263_293.out _).trans (((cell_far (p := ⟨gb293, _, none⟩) NB263_293.out _).trans (((cell_far (p := ⟨gb293, _, none⟩) NB263_293.out _).trans (hHeld.2.2.2.1)))))), ((cell_far (p := ⟨gb293, _, none⟩) NB263_293.out _).trans (((cell_far (p := ⟨gb293, _, none⟩) NB263_293.out _).trans (((cell_far (p := ⟨gb293, _, none⟩) NB263_293.out _).trans (hHeld.2.2.2.2.1)))))), ((cell_far (p := ⟨gb293, _, none⟩) NB263_293.out _).trans (((cell_far (p := ⟨gb293, _, none⟩) NB263_293.out _).trans (((cell_far (p := ⟨gb293, _, none⟩) NB263_293.out _).trans (hHeld.2.2.2.2.2.1)))))), ((cell_far (p := ⟨gb293, _, none⟩) NB263_293.out _).trans (((cell_far (p := ⟨gb293, _, none⟩) NB263_293.out _).trans (((cell_far (p := ⟨gb293, _, none⟩) NB263_293.out _).trans (hHeld.2.2.2.2.2.2.1)))))), ((cell_far (p := ⟨gb293, _, none⟩) NB263_293.out _).trans (((cell_far (p := ⟨gb293, _, none⟩) NB263_293.out _).trans (((cell_far (p := ⟨gb293, _, none⟩) NB263_293.out _).trans (hHeld.2.2.2.2.2.2.2.1)))))), ((cell_far (p := ⟨gb293, _, none⟩) NB263_293.out _).trans (((cell_far (p := ⟨gb293, _, none⟩) NB263_293.out _).trans (((cell_far (p := ⟨gb293, _, none⟩) NB263_293.out _).trans (hHeld.2.2.2.2.2.2.2.2.1)))))), ((cell_far (p := ⟨gb293, _, none⟩) NB263_293.out _).trans (((cell_far (p := ⟨gb293, _, none⟩) NB263_293.out _).trans (((cell_far (p := ⟨gb293, _, none⟩) NB263_293.out _).trans (hHeld.2.2.2.2.2.2.2.2.2.1)))))), ((cell_far (p := ⟨gb293, _, none⟩) NB263_293.out _).trans (((cell_far (p := ⟨gb293, _, none⟩) NB263_293.out _).trans (((cell_far (p := ⟨gb293, _, none⟩) NB263_293.out _).trans (hHeld.2.2.2.2.2.2.2.2.2.2))))))⟩ (fun hHeld => ?_)
                      clear hK K
                      refine pure_ (i := 15) (N := some 12) (v := ?_) (a' := ?_) #[true, true, true, true, true, true, true, true, true, true, true, true, true, true, true, true] rfl rfl (any_of HT_.out (by kernel_rfl)) (fun _ _ _ h => h) (Or.inl ⟨by rfl, ?_⟩) ?_ ?_
                      rotate_left
                      · intro w'
                        go_simp
                        with_reducible rfl
                      rotate_left
                      · simp only [Act.put, List.setIfInBounds_toArray, List.set_cons_zero, List.set_cons_succ, i64_w, i32_w]
                        rfl
                      refine done_ (done_of HT_.out (by kernel_rfl)) ?_
                      have hnb55 := NB278_293.out
                      have hnc55 := NB293_278.out
                      have hcz56_0 : w50.cell? ⟨gb278, 0, none⟩ = some (.int .i64 t272) := (blk_cell BK278.out 0).trans rfl
                      have hcz56_1 : w50.cell? ⟨gb278, 1, none⟩ = some (.int .i64 t273) := (blk_cell BK278.out 1).trans rfl
                      have hcz56_2 : w50.cell? ⟨gb278, 2, none⟩ = some (.slice Ao41 t274.length co41) := (blk_cell BK278.out 2).trans rfl
                      have hfz56_0 := blk_frozen BK278.out 0
                      have hfz56_1 := blk_frozen BK278.out 1
                      have hfz56_2 := blk_frozen BK278.out 2
                      have hnb57 := NB262_293.out
                      have hnc57 := NB293_262.out
                      have hcz58_0 : w50.cell? ⟨gb262, 0, none⟩ = some (.int .i64 a0_0) := (blk_cell BK262.out 0).trans rfl
                      have hcz58_1 : w50.cell? ⟨gb262, 1, none⟩ = some (.int .i64 a0_1) := (blk_cell BK262.out 1).trans rfl
                      have hcz58_2 : w50.cell? ⟨gb262, 2, none⟩ = some (.slice A0_2 l0_2.length c0_2) := (blk_cell BK262.out 2).trans rfl
                      have hfz58_0 := blk_frozen BK262.out 0
                      have hfz58_1 := blk_frozen BK262.out 1
                      have hfz58_2 := blk_frozen BK262.out 2
                      try go_wp2_with (first | (go_at_call 12; (with_reducible refine (aviaryref10_Same.calls t272 t273 _ _ t274 a0_0 a0_1 _ _ l0_2 true _ ?side1 ?side2 ?side3 ?side4 A30.out).mono ?_); (case side1 => refine (Kd.S_reads' (e := 59) (base := w.heap.size) (ok := fun k_ => (some k_ ≠ (.slice Ao21 t267.length co21 : Value).ownBlock ∧ (some k_ ≠ (v282 : Value).ownBlock ∧ (some k_ ≠ (v285 : Value).ownBlock ∧ some k_ ≠ (.slice Ao53 t289.length co53 : Value).ownBlock)))) (n := t274.length) (c := co41) ?_).2.2; exact (by (with_reducible repeat (first | apply Kd.S_alloc | apply Kd.S_drewN | apply Kd.S_drew)); exact (Kd.S_mono (Kd.S_far (p := ⟨gb293, 2, none⟩) (Kd.S_far (p := ⟨gb293, 1, none⟩) (Kd.S_far (p := ⟨gb293, 0, none⟩) (Kd.S_types HO276.out BK293.out (by decide)) (fun _ hk => hk.2) (.int .i64 t287)) (fun _ hk => hk.2) (.int .i64 t288)) (fun _ hk => hk.2) (.slice Ao53 t289.length co53)) (fun _ h_ => h_.1)))); (case side2 => exact (Kd.S_reads' HO276.out).2.1); (case side3 => exact Kd.C_below HR0_2.out by_); (case side4 => exact HC0_2.out); rintro e w59 ⟨rfl, hb⟩; have n0_ := Aside0.mk (Kd.S_below (by (with_reducible repeat (first | apply Kd.S_alloc | apply Kd.S_drewN | apply Kd.S_drew)); exact (Kd.S_mono (Kd.S_far (p := ⟨gb293, 2, none⟩) (Kd.S_far (p := ⟨gb293, 1, none⟩) (Kd.S_far (p := ⟨gb293, 0, none⟩) (Kd.S_types HO269.out BK293.out (by decide)) (fun _ hk => hk.2) (.int .i64 t287)) (fun _ hk => hk.2) (.int .i64 t288)) (fun _ hk => hk.2) (.slice Ao53 t289.length co53)) (fun _ h_ => h_.1))) hb); have n1_ := Aside0.mk (Kd.S_below (by (with_reducible repeat (first | apply Kd.S_alloc | apply Kd.S_drewN | apply Kd.S_drew)); exact (Kd.S_mono (Kd.S_far (p := ⟨gb293, 2, none⟩) (Kd.S_far (p := ⟨gb293, 1, none⟩) (Kd.S_far (p := ⟨gb293, 0, none⟩) (Kd.S_types HO276.out BK293.out (by decide)) (fun _ hk => hk.2) (.int .i64 t287)) (fun _ hk => hk.2) (.int .i64 t288)) (fun _ hk => hk.2) (.slice Ao53 t289.length co53)) (fun _ h_ => h_.1))) hb); have n2_ := Aside0.mk (Kd.S_below (by (with_reducible repeat (first | apply Kd.S_alloc | apply Kd.S_drewN | apply Kd.S_drew)); exact (Kd.S_mono (Kd.S_far (p := ⟨gb293, 2, none⟩) (Kd.S_far (p := ⟨gb293, 1, none⟩) (Kd.S_far (p := ⟨gb293, 0, none⟩) (Kd.S_types HO283.out BK293.out (by decide)) (fun _ hk => hk.2) (.int .i64 t287)) (fun _ hk => hk.2) (.int .i64 t288)) (fun _ hk => hk.2) (.slice Ao53 t289.length co53)) (fun _ h_ => h_.1))) hb); have n3_ := Aside0.mk (Kd.R_below (by (with_reducible repeat (first | apply Kd.R_alloc | apply Kd.R_drewN | apply Kd.R_drew)); exact (Kd.R_mono (Kd.R_far (p := ⟨gb293, 2, none⟩) (Kd.R_far (p := ⟨gb293, 1, none⟩) (Kd.R_far (p := ⟨gb293, 0, none⟩) (Kd.R_types HO286.out BK293.out (by decide)) (fun _ hk => hk.2) (.int .i64 t287)) (fun _ hk => hk.2) (.int .i64 t288)) (fun _ hk => hk.2) (.slice Ao53 t289.length co53)) (fun _ h_ => h_.1))) hb); have n4_ := Aside0.mk (Kd.S_below (by (with_reducible repeat (first | apply Kd.S_alloc | apply Kd.S_drewN | apply Kd.S_drew)); exact (Kd.S_mono (Kd.S_far (p := ⟨gb293, 2, none⟩) (Kd.S_far (p := ⟨gb293, 1, none⟩) (Kd.S_far (p := ⟨gb293, 0, none⟩) (Kd.S_types HO291.out BK293.out (by decide)) (fun _ hk => hk.2) (.int .i64 t287)) (fun _ hk => hk.2) (.int .i64 t288)) (fun _ hk => hk.2) (.slice Ao53 t289.length co53)) (fun _ h_ => h_.1))) hb); have n5_ := Aside0.mk (blk_below (g := gb262) (o := .cells #[.int .i64 a0_0, .int .i64 a0_1, .slice A0_2 l0_2.length c0_2] 27 (0, 0)) (by (with_reducible repeat (first | refine blk_drewN ?_ _ | refine blk_drew ?_ | refine blk_alloc ?_ _)); refine blk_far ?_ NB262_293.out _; (with_reducible repeat (first | refine blk_drewN ?_ _ | refine blk_drew ?_ | refine blk_alloc ?_ _)); refine blk_far ?_ NB262_293.out _; (with_reducible repeat (first | refine blk_drewN ?_ _ | refine blk_drew ?_ | refine blk_alloc ?_ _)); refine blk_far ?_ NB262_293.out _; (with_reducible repeat (first | refine blk_drewN ?_ _ | refine blk_drew ?_ | refine blk_alloc ?_ _)); exact BK262.out) hb); have n6_ := Aside0.mk (blk_below (g := gb263) (o := .cells #[.int .i64 a1_0, .int .i64 a1_1, .int .i64 a1_2, .int .i64 a1_3, .int .i64 a1_4, .int .i64 a1_5, .int .i64 a1_6, .int .i64 a1_7] 23 (0, 0)) (by (with_reducible repeat (first | refine blk_drewN ?_ _ | refine blk_drew ?_ | refine blk_alloc ?_ _)); refine blk_far ?_ NB263_293.out _; (with_reducible repeat (first | refine blk_drewN ?_ _ | refine blk_drew ?_ | refine blk_alloc ?_ _)); refine blk_far ?_ NB263_293.out _; (with_reducible repeat (first | refine blk_drewN ?_ _ | refine blk_drew ?_ | refine blk_alloc ?_ _)); refine blk_far ?_ NB263_293.out _; (with_reducible repeat (first | refine blk_drewN ?_ _ | refine blk_drew ?_ | refine blk_alloc ?_ _)); exact BK263.out) hb); have n7_ := Aside0.mk (blk_below (g := gb278) (o := .cells #[.int .i64 t272, .int .i64 t273, .slice Ao41 t274.length co41] 27 (0, 0)) (by (with_reducible repeat (first | refine blk_drewN ?_ _ | refine blk_drew ?_ | refine blk_alloc ?_ _)); refine blk_far ?_ NB278_293.out _; (with_reducible repeat (first | refine blk_drewN ?_ _ | refine blk_drew ?_ | refine blk_alloc ?_ _)); refine blk_far ?_ NB278_293.out _; (with_reducible repeat (first | refine blk_drewN ?_ _ | refine blk_drew ?_ | refine blk_alloc ?_ _)); refine blk_far ?_ NB278_293.out _; (with_reducible repeat (first | refine blk_drewN ?_ _ | refine blk_drew ?_ | refine blk_alloc ?_ _)); exact BK278.out) hb); have n8_ := Aside0.mk (blk_below (g := gb293) (o := .cells #[.int .i64 t287, .int .i64 t288, .slice Ao53 t289.length co53] 27 (0, 0)) (by (with_reducible repeat (first | refine blk_drewN ?_ _ | refine blk_drew ?_ | refine blk_alloc ?_ _)); refine blk_put (cs := #[.int .i64 t287, .int .i64 t288, .slice none 0 0]) ?_ 2 _ rfl; (with_reducible repeat (first | refine blk_drewN ?_ _ | refine blk_drew ?_ | refine blk_alloc ?_ _)); refine blk_put (cs := #[.int .i64 t287, .int .i64 0, .slice none 0 0]) ?_ 1 _ rfl; (with_reducible repeat (first | refine blk_drewN ?_ _ | refine blk_drew ?_ | refine blk_alloc ?_ _)); refine blk_put (cs := #[.int .i64 0, .int .i64 0, .slice none 0 0]) ?_ 0 _ rfl; (with_reducible repeat (first | refine blk_drewN ?_ _ | refine blk_drew ?_ | refine blk_alloc ?_ _)); exact BK293.out) hb); have n9_ := Aside0.mk (below_step by_ hb); clear HO269; clear HO276; clear HO283; clear HO286; clear HO291; clear BK262; clear BK263; clear BK278; clear BK293; clear HB; have HO269 := n0_; have HO276 := n1_; have HO283 := n2_; have HO286 := n3_; have HO291 := n4_; have BK262 := n5_; have BK263 := n6_; have BK278 := n7_; have BK293 := n8_; have HB := n9_; clear n0_ n1_ n2_ n3_ n4_ n5_ n6_ n7_ n8_ n9_; (try clear hb); (try clear hb2); (try clear hk); (try clear hi); have hnb60 := NB293_263.out; have hnc60 := NB263_293.out; have hcz61_0 : w59.cell? ⟨gb293, 0, none⟩ = some (.int .i64 t287) := (blk_cell BK293.out 0).trans rfl; have hcz61_1 : w59.cell? ⟨gb293, 1, none⟩ = some (.int .i64 t288) := (blk_cell BK293.out 1).trans rfl; have hcz61_2 : w59.cell? ⟨gb293, 2, none⟩ = some (.slice Ao53 t289.length co53) := (blk_cell BK293.out 2).trans rfl; have hfz61_0 := blk_frozen BK293.out 0; have hfz61_1 := blk_frozen BK293.out 1; have hfz61_2 := blk_frozen BK293.out 2; have hcz62_0 : w59.cell? ⟨gb262, 0, none⟩ = some (.int .i64 a0_0) := (blk_cell BK262.out 0).trans rfl; have hcz62_1 : w59.cell? ⟨gb262, 1, none⟩ = some (.int .i64 a0_1) := (blk_cell BK262.out 1).trans rfl; have hcz62_2 : w59.cell? ⟨gb262, 2, none⟩ = some (.slice A0_2 l0_2.length c0_2) := (blk_cell BK262.out 2).trans rfl; have hfz62_0 := blk_frozen BK262.out 0; have hfz62_1 := blk_frozen BK262.out 1; have hfz62_2 := blk_frozen BK262.out 2) | (go_at_call 12; (with_reducible refine (aviaryref10_Same.calls t287 t288 _ _ t289 a0_0 a0_1 _ _ l0_2 true _ ?side1 ?side2 ?side3 ?side4 A32.out).mono ?_); (case side1 => repeat (first | exact (Kd.S_reads' HO291.out).2.2 | (with_reducible refine Kd.C_alloc ?_ _) | (with_reducible refine Kd.C_drewN ?_ _) | (with_reducible refine Kd.C_drew ?_))); (case side2 => exact (Kd.S_reads' HO291.out).2.1); (case side3 => repeat (first | exact (Kd.C_below HR0_2.out HB.out) | (with_reducible refine Kd.C_alloc ?_ _) | (with_reducible refine Kd.C_drewN ?_ _) | (with_reducible refine Kd.C_drew ?_))); (case side4 => exact HC0_2.out); rintro e w63 ⟨rfl, hb⟩; have n0_ := Aside0.mk (Kd.S_below (by (with_reducible repeat (first | apply Kd.S_alloc | apply Kd.S_drewN | apply Kd.S_drew)); exact HO269.out) hb); have n1_ := Aside0.mk (Kd.S_below (by (with_reducible repeat (first | apply Kd.S_alloc | apply Kd.S_drewN | apply Kd.S_drew)); exact HO276.out) hb); have n2_ := Aside0.mk (Kd.S_below (by (with_reducible repeat (first | apply Kd.S_alloc | apply Kd.S_drewN | apply Kd.S_drew)); exact HO283.out) hb); have n3_ := Aside0.mk (Kd.R_below (by (with_reducible repeat (first | apply Kd.R_alloc | apply Kd.R_drewN | apply Kd.R_drew)); exact HO286.out) hb); have n4_ := Aside0.mk (Kd.S_below (by (with_reducible repeat (first | apply Kd.S_alloc | apply Kd.S_drewN | apply Kd.S_drew)); exact HO291.out) hb); have n5_ := Aside0.mk (blk_below (bkl_ BK262.out) hb); have n6_ := Aside0.mk (blk_below (bkl_ BK263.out) hb); have n7_ := Aside0.mk (blk_below (bkl_ BK278.out) hb); have n8_ := Aside0.mk (blk_below (bkl_ BK293.out) hb); have n9_ := Aside0.mk (below_step by_ hb); clear HO269; clear HO276; clear HO283; clear HO286; clear HO291; clear BK262; clear BK263; clear BK278; clear BK293; clear HB; have HO269 := n0_; have HO276 := n1_; have HO283 := n2_; have HO286 := n3_; have HO291 := n4_; have BK262 := n5_; have BK263 := n6_; have BK278 := n7_; have BK293 := n8_; have HB := n9_; clear n0_ n1_ n2_ n3_ n4_ n5_ n6_ n7_ n8_ n9_; (try clear hb); (try clear hb2); (try clear hk); (try clear hi)))
                      go_meet
                      case rel => exact ⟨_, H', ⟨by have := HJ5.out; first | omega | exact Nat.le_refl _⟩, ⟨by (with_reducible repeat (first | refine blk_drewN ?_ _ | refine blk_drew ?_ | refine blk_alloc ?_ _)); exact BK262.out⟩, ⟨by (with_reducible repeat (first | refine blk_drewN ?_ _ | refine blk_drew ?_ | refine blk_alloc ?_ _)); exact BK263.out⟩, ⟨by repeat (first | (with_reducible first | exact HB.out | apply below_alloc | apply pw_below_drewN | apply below_drew1 | refine below_set ?_ GE262.out | refine below_set ?_ GE263.out | refine below_set ?_ GE278.out | refine below_set ?_ GE293.out) | exact HB.out)⟩⟩
                    · replace c33 := Bool.eq_false_iff.mpr c33
                      subst c33
                      have H1 : (none) = some r := by rw [if_neg (show ¬ (false = true) by decide)] at H; exact H
                      clear H
                      have H := H1
                      clear H1
                      exact absurd H (by simp)
                  · replace c31 := Bool.eq_false_iff.mpr c31
                    subst c31
                    have H1 : (none) = some r := by rw [if_neg (show ¬ (false = true) by decide)] at H; exact H
                    clear H
                    have H := H1
                    clear H1
                    exact absurd H (by simp)
                · rw [if_neg c29] at H
                  exact absurd H (by simp)
              · rw [if_neg c28] at H
                exact absurd H (by simp)
            · rw [if_neg c23] at H
              have c23b0 : (t271 == 0) = false := beq_eq_false_iff_ne.mpr c23
              have c23b1 : (t271 != 0) = true := bne_iff_ne.mpr c23
              (first | rw [c23b0] | (simp only [i64_w, i32_w]; rw [c23b0]) | skip)
              have H' := Aside0.mk H
              clear H
              go_wp2
              go_meet
              case rel => exact ⟨_, H', ⟨by have := HJ5.out; first | omega | exact Nat.le_refl _⟩, ⟨by (with_reducible repeat (first | refine blk_drewN ?_ _ | refine blk_drew ?_ | refine blk_alloc ?_ _)); exact BK262.out⟩, ⟨by (with_reducible repeat (first | refine blk_drewN ?_ _ | refine blk_drew ?_ | refine blk_alloc ?_ _)); exact BK263.out⟩, ⟨by repeat (first | (with_reducible first | exact HB.out | apply below_alloc | apply pw_below_drewN | apply below_drew1 | refine below_set ?_ GE262.out | refine below_set ?_ GE263.out) | exact HB.out)⟩⟩
          case rest =>
            clear HC18
            try clear c1
            try clear c2
            try clear p2
            try clear c3
            try clear c5
            try clear c6
            try clear c10
            try clear c16
            try clear c22
            try clear c23
            try clear c23b0
            try clear c23b1
            try clear c28
            try clear c29
            try clear c31
            try clear c33
            try clear c55
            try clear c57
            try clear c60
            try clear hcz56_0
            try clear hcz56_1
            try clear hcz56_2
            try clear hcz58_0
            try clear hcz58_1
            try clear hcz58_2
            try clear hcz61_0
            try clear hcz61_1
            try clear hcz61_2
            try clear hcz62_0
            try clear hcz62_1
            try clear hcz62_2
            try clear hfz56_0
            try clear hfz56_1
            try clear hfz56_2
            try clear hfz58_0
            try clear hfz58_1
            try clear hfz58_2
            try clear hfz61_0
            try clear hfz61_1
            try clear hfz61_2
            try clear hfz62_0
            try clear hfz62_1
            try clear hfz62_2
            obtain ⟨kq, HA, HJ17, BK262, BK263, HB⟩ := hcut
            cases kq with
            | zero => exact absurd HA.out (by simp [aviarylaw10_GraftBack.j1])
            | succ kj17 =>
              have H := HA.out
              clear HA
              simp only [aviarylaw10_GraftBack.j1] at H
              replace H := Option.bind_eq_some_iff.mp H
              obtain ⟨⟨t296, t297, t298, t301⟩, A640, H⟩ := H
              replace H : (if t301 = 0 then ((graft_Encode.f kj17 t296 t297 t298 a1_0 a1_1 a1_2 a1_3 a1_4 a1_5 a1_6 a1_7).bind fun bt303 => (if bt303.2 = 0 then (some (bt303.1.toList == a2.toList)) else (none))) else (if t301 = 1 then (some (t296 == 0)) else (none))) = some r := H
              have A64 := Aside0.mk A640
              clear A640
              by_cases c65 : t301 = 0
              · rw [if_pos c65] at H
                have c65b0 : (t301 == 0) = true := beq_iff_eq.mpr c65
                have c65b1 : (t301 != 0) = false := bne_eq_false_iff_eq.mpr c65
                clear c65
                replace H := Option.bind_eq_some_iff.mp H
                obtain ⟨⟨t303, t304⟩, A660, H⟩ := H
                replace H : (if t304 = 0 then (some (t303.toList == a2.toList)) else (none)) = some r := H
                have A66 := Aside0.mk A660
                clear A660
                by_cases c67 : t304 = 0
                · rw [if_pos c67] at H
                  have c67b0 : (t304 == 0) = true := beq_iff_eq.mpr c67
                  have c67b1 : (t304 != 0) = false := bne_eq_false_iff_eq.mpr c67
                  clear c67
                  obtain rfl := Option.some.inj H
                  have hnb68 := NB263_262.out
                  have hnc68 := NB262_263.out
                  have hcz69_0 : wc.cell? ⟨gb263, 0, none⟩ = some (.int .i64 a1_0) := (blk_cell BK263.out 0).trans rfl
                  have hcz69_1 : wc.cell? ⟨gb263, 1, none⟩ = some (.int .i64 a1_1) := (blk_cell BK263.out 1).trans rfl
                  have hcz69_2 : wc.cell? ⟨gb263, 2, none⟩ = some (.int .i64 a1_2) := (blk_cell BK263.out 2).trans rfl
                  have hcz69_3 : wc.cell? ⟨gb263, 3, none⟩ = some (.int .i64 a1_3) := (blk_cell BK263.out 3).trans rfl
                  have hcz69_4 : wc.cell? ⟨gb263, 4, none⟩ = some (.int .i64 a1_4) := (blk_cell BK263.out 4).trans rfl
                  have hcz69_5 : wc.cell? ⟨gb263, 5, none⟩ = some (.int .i64 a1_5) := (blk_cell BK263.out 5).trans rfl
                  have hcz69_6 : wc.cell? ⟨gb263, 6, none⟩ = some (.int .i64 a1_6) := (blk_cell BK263.out 6).trans rfl
                  have hcz69_7 : wc.cell? ⟨gb263, 7, none⟩ = some (.int .i64 a1_7) := (blk_cell BK263.out 7).trans rfl
                  have hfz69_0 := blk_frozen BK263.out 0
                  have hfz69_1 := blk_frozen BK263.out 1
                  have hfz69_2 := blk_frozen BK263.out 2
                  have hfz69_3 := blk_frozen BK263.out 3
                  have hfz69_4 := blk_frozen BK263.out 4
                  have hfz69_5 := blk_frozen BK263.out 5
                  have hfz69_6 := blk_frozen BK263.out 6
                  have hfz69_7 := blk_frozen BK263.out 7
                  go_wp2_with (first | ((with_reducible refine gate_callee (f := 24) rfl ?_); refine goesL_ (some 77) rfl rfl Try.func24 (by kernel_rfl) rfl #[.string a2, .agg #[.int .i64 a1_0, .int .i64 a1_1, .int .i64 a1_2, .int .i64 a1_3, .int .i64 a1_4, .int .i64 a1_5, .int .i64 a1_6, .int .i64 a1_7]] rfl ar_ ?_; (with_reducible refine (graft_Decode.calls kj17 a2 a1_0 a1_1 a1_2 a1_3 a1_4 a1_5 a1_6 a1_7 t296 t297 t298 t301 _ A64.out).mono ?_); rintro e w70 ⟨v299, rfl, ho0, hb⟩; refine ⟨_, rfl, ?_⟩; have n0_ := Aside0.mk (Kd.S_lower ho0 (below_size by_)); have n1_ := Aside0.mk (blk_below (bkl_ BK262.out) hb); have n2_ := Aside0.mk (blk_below (bkl_ BK263.out) hb); have n3_ := Aside0.mk (below_step by_ hb); clear BK262; clear BK263; clear HB; have HO300 := n0_; have BK262 := n1_; have BK263 := n2_; have HB := n3_; clear n0_ n1_ n2_ n3_; (try clear hb); (try clear hb2); (try clear hk); (try clear hi); (try clear ho0)) | ((with_reducible refine gate_dst (N := 13) rfl ?_); (try (refine gate_guard (by rfl) ?_; dsimp only)); refine box_event ?hg (N := 13) ?hd (cs := #[.int .i64 0, .int .i64 0, .slice none 0 0]) (t := 27) ?hr ?_; (case hd => rfl); (case hg => rfl); (case hr => first | (go_simp; done) | (go_simp; rfl)); intro gb302 hg w71 hbox hb; have n0_ := Aside0.mk (Kd.S_below (by (with_reducible repeat (first | apply Kd.S_alloc | apply Kd.S_drewN | apply Kd.S_drew)); exact HO300.out) hb); have n1_ := Aside0.mk (blk_below (bkl_ BK262.out) hb); have n2_ := Aside0.mk (blk_below (bkl_ BK263.out) hb); have n3_ := Aside0.mk (below_step by_ hb); have n4_ := Aside0.mk (hbox); have n5_ := Aside0.mk ((by rw [hg]; exact (below_size by_) : w.heap.size ≤ gb302)); have n6_ := Aside0.mk ((by rw [hg]; exact (below_size by_) : w.heap.size ≤ gb302)); have n7_ := Aside0.mk ((by rw [hg]; exact Nat.ne_of_lt (blk_lt (bkl_ BK262.out)) : gb262 ≠ gb302)); have n8_ := Aside0.mk ((by rw [hg]; exact Nat.ne_of_gt (blk_lt (bkl_ BK262.out)) : gb302 ≠ gb262)); have n9_ := Aside0.mk ((by rw [hg]; exact Nat.ne_of_lt (blk_lt (bkl_ BK263.out)) : gb263 ≠ gb302)); have n10_ := Aside0.mk ((by rw [hg]; exact Nat.ne_of_gt (blk_lt (bkl_ BK263.out)) : gb302 ≠ gb263)); clear HO300; clear BK262; clear BK263; clear HB; have HO300 := n0_; have BK262 := n1_; have BK263 := n2_; have HB := n3_; have BK302 := n4_; have GW302 := n5_; have GE302 := n6_; have NB262_302 := n7_; have NB302_262 := n8_; have NB263_302 := n9_; have NB302_263 := n10_; clear n0_ n1_ n2_ n3_ n4_ n5_ n6_ n7_ n8_ n9_ n10_; clear hb hbox hg; have hnb72 := NB302_262.out; have hnc72 := NB262_302.out; have hnb73 := NB302_263.out; have hnc73 := NB263_302.out; have hcz74_0 : w71.cell? ⟨gb302, 0, none⟩ = some (.int .i64 0) := (blk_cell BK302.out 0).trans rfl; have hcz74_1 : w71.cell? ⟨gb302, 1, none⟩ = some (.int .i64 0) := (blk_cell BK302.out 1).trans rfl; have hcz74_2 : w71.cell? ⟨gb302, 2, none⟩ = some (.slice none 0 0) := (blk_cell BK302.out 2).trans rfl; have hfz74_0 := blk_frozen BK302.out 0; have hfz74_1 := blk_frozen BK302.out 1; have hfz74_2 := blk_frozen BK302.out 2; obtain ⟨Ao75, co75, eo75⟩ := Kd.S_slice HO300.out; subst eo75; have hcz76_0 : w71.cell? ⟨gb263, 0, none⟩ = some (.int .i64 a1_0) := (blk_cell BK263.out 0).trans rfl; have hcz76_1 : w71.cell? ⟨gb263, 1, none⟩ = some (.int .i64 a1_1) := (blk_cell BK263.out 1).trans rfl; have hcz76_2 : w71.cell? ⟨gb263, 2, none⟩ = some (.int .i64 a1_2) := (blk_cell BK263.out 2).trans rfl; have hcz76_3 : w71.cell? ⟨gb263, 3, none⟩ = some (.int .i64 a1_3) := (blk_cell BK263.out 3).trans rfl; have hcz76_4 : w71.cell? ⟨gb263, 4, none⟩ = some (.int .i64 a1_4) := (blk_cell BK263.out 4).trans rfl; have hcz76_5 : w71.cell? ⟨gb263, 5, none⟩ = some (.int .i64 a1_5) := (blk_cell BK263.out 5).trans rfl; have hcz76_6 : w71.cell? ⟨gb263, 6, none⟩ = some (.int .i64 a1_6) := (blk_cell BK263.out 6).trans rfl; have hcz76_7 : w71.cell? ⟨gb263, 7, none⟩ = some (.int .i64 a1_7) := (blk_cell BK263.out 7).trans rfl; have hfz76_0 := blk_frozen BK263.out 0; have hfz76_1 := blk_frozen BK263.out 1; have hfz76_2 := blk_frozen BK263.out 2; have hfz76_3 := blk_frozen BK263.out 3; have hfz76_4 := blk_frozen BK263.out 4; have hfz76_5 := blk_frozen BK263.out 5; have hfz76_6 := blk_frozen BK263.out 6; have hfz76_7 := blk_frozen BK263.out 7) | ((with_reducible refine gate_callee (f := 17) rfl ?_); refine goesL_ (some 92) rfl rfl Try.func17 (by kernel_rfl) rfl #[.agg #[.int .i64 t296, .int .i64 t297, .slice Ao75 t298.length co75], .agg #[.int .i64 a1_0, .int .i64 a1_1, .int .i64 a1_2, .int .i64 a1_3, .int .i64 a1_4, .int .i64 a1_5, .int .i64 a1_6, .int .i64 a1_7]] rfl ar_ ?_; (with_reducible refine (graft_Encode.calls kj17 t296 t297 _ _ t298 a1_0 a1_1 a1_2 a1_3 a1_4 a1_5 a1_6 a1_7 t303 t304 _ ?side1 ?side2 A66.out).mono ?_); (case side1 => refine (Kd.S_reads' (e := 59) (base := w.heap.size) (ok := fun k_ => True) (n := t298.length) (c := co75) ?_).2.2; exact (by (with_reducible repeat (first | apply Kd.S_alloc | apply Kd.S_drewN | apply Kd.S_drew)); exact (Kd.S_mono (Kd.S_far (p := ⟨gb302, 2, none⟩) (Kd.S_far (p := ⟨gb302, 1, none⟩) (Kd.S_far (p := ⟨gb302, 0, none⟩) (Kd.S_types HO300.out BK302.out (by decide)) (fun _ hk => hk.2) (.int .i64 t296)) (fun _ hk => hk.2) (.int .i64 t297)) (fun _ hk => hk.2) (.slice Ao75 t298.length co75)) (fun _ h_ => h_.1)))); (case side2 => exact (Kd.S_reads' HO300.out).2.1); rintro e w77 ⟨rfl, hb⟩; refine ⟨_, rfl, ?_⟩; have n0_ := Aside0.mk (Kd.S_below (by (with_reducible repeat (first | apply Kd.S_alloc | apply Kd.S_drewN | apply Kd.S_drew)); exact (Kd.S_mono (Kd.S_far (p := ⟨gb302, 2, none⟩) (Kd.S_far (p := ⟨gb302, 1, none⟩) (Kd.S_far (p := ⟨gb302, 0, none⟩) (Kd.S_types HO300.out BK302.out (by decide)) (fun _ hk => hk.2) (.int .i64 t296)) (fun _ hk => hk.2) (.int .i64 t297)) (fun _ hk => hk.2) (.slice Ao75 t298.length co75)) (fun _ h_ => h_.1))) hb); have n1_ := Aside0.mk (blk_below (g := gb262) (o := .cells #[.int .i64 a0_0, .int .i64 a0_1, .slice A0_2 l0_2.length c0_2] 27 (0, 0)) (by (with_reducible repeat (first | refine blk_drewN ?_ _ | refine blk_drew ?_ | refine blk_alloc ?_ _)); refine blk_far ?_ NB262_302.out _; (with_reducible repeat (first | refine blk_drewN ?_ _ | refine blk_drew ?_ | refine blk_alloc ?_ _)); refine blk_far ?_ NB262_302.out _; (with_reducible repeat (first | refine blk_drewN ?_ _ | refine blk_drew ?_ | refine blk_alloc ?_ _)); refine blk_far ?_ NB262_302.out _; (with_reducible repeat (first | refine blk_drewN ?_ _ | refine blk_drew ?_ | refine blk_alloc ?_ _)); exact BK262.out) hb); have n2_ := Aside0.mk (blk_below (g := gb263) (o := .cells #[.int .i64 a1_0, .int .i64 a1_1, .int .i64 a1_2, .int .i64 a1_3, .int .i64 a1_4, .int .i64 a1_5, .int .i64 a1_6, .int .i64 a1_7] 23 (0, 0)) (by (with_reducible repeat (first | refine blk_drewN ?_ _ | refine blk_drew ?_ | refine blk_alloc ?_ _)); refine blk_far ?_ NB263_302.out _; (with_reducible repeat (first | refine blk_drewN ?_ _ | refine blk_drew ?_ | refine blk_alloc ?_ _)); refine blk_far ?_ NB263_302.out _; (with_reducible repeat (first | refine blk_drewN ?_ _ | refine blk_drew ?_ | refine blk_alloc ?_ _)); refine blk_far ?_ NB263_302.out _; (with_reducible repeat (first | refine blk_drewN ?_ _ | refine blk_drew ?_ | refine blk_alloc ?_ _)); exact BK263.out) hb); have n3_ := Aside0.mk (blk_below (g := gb302) (o := .cells #[.int .i64 t296, .int .i64 t297, .slice Ao75 t298.length co75] 27 (0, 0)) (by (with_reducible repeat (first | refine blk_drewN ?_ _ | refine blk_drew ?_ | refine blk_alloc ?_ _)); refine blk_put (cs := #[.int .i64 t296, .int .i64 t297, .slice none 0 0]) ?_ 2 _ rfl; (with_reducible repeat (first | refine blk_drewN ?_ _ | refine blk_drew ?_ | refine blk_alloc ?_ _)); refine blk_put (cs := #[.int .i64 t296, .int .i64 0, .slice none 0 0]) ?_ 1 _ rfl; (with_reducible repeat (first | refine blk_drewN ?_ _ | refine blk_drew ?_ | refine blk_alloc ?_ _)); refine blk_put (cs := #[.int .i64 0, .int .i64 0, .slice none 0 0]) ?_ 0 _ rfl; (with_reducible repeat (first | refine blk_drewN ?_ _ | refine blk_drew ?_ | refine blk_alloc ?_ _)); exact BK302.out) hb); have n4_ := Aside0.mk (below_step by_ hb); clear HO300; clear BK262; clear BK263; clear BK302; clear HB; have HO300 := n0_; have BK262 := n1_; have BK263 := n2_; have BK302 := n3_; have HB := n4_; clear n0_ n1_ n2_ n3_ n4_; (try clear hb); (try clear hb2); (try clear hk); (try clear hi)))
                  go_ret
                  exact ⟨by first | rfl | (simp [errW_none, errW_some] <;> rfl) | (simp [*, errW_none, errW_some] <;> rfl), by repeat (first | (with_reducible first | exact HB.out | apply below_alloc | apply pw_below_drewN | apply below_drew1 | refine below_set ?_ GE262.out | refine below_set ?_ GE263.out | refine below_set ?_ GE302.out) | exact HB.out)⟩
                · rw [if_neg c67] at H
                  exact absurd H (by simp)
              · rw [if_neg c65] at H
                have c65b0 : (t301 == 0) = false := beq_eq_false_iff_ne.mpr c65
                have c65b1 : (t301 != 0) = true := bne_iff_ne.mpr c65
                by_cases c78 : t301 = 1
                · rw [if_pos c78] at H
                  have c78b0 : (t301 == 1) = true := beq_iff_eq.mpr c78
                  have c78b1 : (t301 != 1) = false := bne_eq_false_iff_eq.mpr c78
                  clear c78
                  obtain rfl := Option.some.inj H
                  have hnb79 := NB263_262.out
                  have hnc79 := NB262_263.out
                  have hcz80_0 : wc.cell? ⟨gb263, 0, none⟩ = some (.int .i64 a1_0) := (blk_cell BK263.out 0).trans rfl
                  have hcz80_1 : wc.cell? ⟨gb263, 1, none⟩ = some (.int .i64 a1_1) := (blk_cell BK263.out 1).trans rfl
                  have hcz80_2 : wc.cell? ⟨gb263, 2, none⟩ = some (.int .i64 a1_2) := (blk_cell BK263.out 2).trans rfl
                  have hcz80_3 : wc.cell? ⟨gb263, 3, none⟩ = some (.int .i64 a1_3) := (blk_cell BK263.out 3).trans rfl
                  have hcz80_4 : wc.cell? ⟨gb263, 4, none⟩ = some (.int .i64 a1_4) := (blk_cell BK263.out 4).trans rfl
                  have hcz80_5 : wc.cell? ⟨gb263, 5, none⟩ = some (.int .i64 a1_5) := (blk_cell BK263.out 5).trans rfl
                  have hcz80_6 : wc.cell? ⟨gb263, 6, none⟩ = some (.int .i64 a1_6) := (blk_cell BK263.out 6).trans rfl
                  have hcz80_7 : wc.cell? ⟨gb263, 7, none⟩ = some (.int .i64 a1_7) := (blk_cell BK263.out 7).trans rfl
                  have hfz80_0 := blk_frozen BK263.out 0
                  have hfz80_1 := blk_frozen BK263.out 1
                  have hfz80_2 := blk_frozen BK263.out 2
                  have hfz80_3 := blk_frozen BK263.out 3
                  have hfz80_4 := blk_frozen BK263.out 4
                  have hfz80_5 := blk_frozen BK263.out 5
                  have hfz80_6 := blk_frozen BK263.out 6
                  have hfz80_7 := blk_frozen BK263.out 7
                  go_wp2_with (first | ((with_reducible refine gate_callee (f := 24) rfl ?_); refine goesL_ (some 77) rfl rfl Try.func24 (by kernel_rfl) rfl #[.string a2, .agg #[.int .i64 a1_0, .int .i64 a1_1, .int .i64 a1_2, .int .i64 a1_3, .int .i64 a1_4, .int .i64 a1_5, .int .i64 a1_6, .int .i64 a1_7]] rfl ar_ ?_; (with_reducible refine (graft_Decode.calls kj17 a2 a1_0 a1_1 a1_2 a1_3 a1_4 a1_5 a1_6 a1_7 t296 t297 t298 t301 _ A64.out).mono ?_); rintro e w81 ⟨v299, rfl, ho0, hb⟩; refine ⟨_, rfl, ?_⟩; have n0_ := Aside0.mk (Kd.S_lower ho0 (below_size by_)); have n1_ := Aside0.mk (blk_below (bkl_ BK262.out) hb); have n2_ := Aside0.mk (blk_below (bkl_ BK263.out) hb); have n3_ := Aside0.mk (below_step by_ hb); clear BK262; clear BK263; clear HB; have HO300 := n0_; have BK262 := n1_; have BK263 := n2_; have HB := n3_; clear n0_ n1_ n2_ n3_; (try clear hb); (try clear hb2); (try clear hk); (try clear hi); (try clear ho0)) | ((with_reducible refine gate_dst (N := 13) rfl ?_); (try (refine gate_guard (by rfl) ?_; dsimp only)); refine box_event ?hg (N := 13) ?hd (cs := #[.int .i64 0, .int .i64 0, .slice none 0 0]) (t := 27) ?hr ?_; (case hd => rfl); (case hg => rfl); (case hr => first | (go_simp; done) | (go_simp; rfl)); intro gb302 hg w82 hbox hb; have n0_ := Aside0.mk (Kd.S_below (by (with_reducible repeat (first | apply Kd.S_alloc | apply Kd.S_drewN | apply Kd.S_drew)); exact HO300.out) hb); have n1_ := Aside0.mk (blk_below (bkl_ BK262.out) hb); have n2_ := Aside0.mk (blk_below (bkl_ BK263.out) hb); have n3_ := Aside0.mk (below_step by_ hb); have n4_ := Aside0.mk (hbox); have n5_ := Aside0.mk ((by rw [hg]; exact (below_size by_) : w.heap.size ≤ gb302)); have n6_ := Aside0.mk ((by rw [hg]; exact (below_size by_) : w.heap.size ≤ gb302)); have n7_ := Aside0.mk ((by rw [hg]; exact Nat.ne_of_lt (blk_lt (bkl_ BK262.out)) : gb262 ≠ gb302)); have n8_ := Aside0.mk ((by rw [hg]; exact Nat.ne_of_gt (blk_lt (bkl_ BK262.out)) : gb302 ≠ gb262)); have n9_ := Aside0.mk ((by rw [hg]; exact Nat.ne_of_lt (blk_lt (bkl_ BK263.out)) : gb263 ≠ gb302)); have n10_ := Aside0.mk ((by rw [hg]; exact Nat.ne_of_gt (blk_lt (bkl_ BK263.out)) : gb302 ≠ gb263)); clear HO300; clear BK262; clear BK263; clear HB; have HO300 := n0_; have BK262 := n1_; have BK263 := n2_; have HB := n3_; have BK302 := n4_; have GW302 := n5_; have GE302 := n6_; have NB262_302 := n7_; have NB302_262 := n8_; have NB263_302 := n9_; have NB302_263 := n10_; clear n0_ n1_ n2_ n3_ n4_ n5_ n6_ n7_ n8_ n9_ n10_; clear hb hbox hg; have hnb83 := NB302_262.out; have hnc83 := NB262_302.out; have hnb84 := NB302_263.out; have hnc84 := NB263_302.out; have hcz85_0 : w82.cell? ⟨gb302, 0, none⟩ = some (.int .i64 0) := (blk_cell BK302.out 0).trans rfl; have hcz85_1 : w82.cell? ⟨gb302, 1, none⟩ = some (.int .i64 0) := (blk_cell BK302.out 1).trans rfl; have hcz85_2 : w82.cell? ⟨gb302, 2, none⟩ = some (.slice none 0 0) := (blk_cell BK302.out 2).trans rfl; have hfz85_0 := blk_frozen BK302.out 0; have hfz85_1 := blk_frozen BK302.out 1; have hfz85_2 := blk_frozen BK302.out 2; obtain ⟨Ao86, co86, eo86⟩ := Kd.S_slice HO300.out; subst eo86))
                  go_ret
                  exact ⟨by first | rfl | (simp [errW_none, errW_some] <;> rfl) | (simp [*, errW_none, errW_some] <;> rfl), by repeat (first | (with_reducible first | exact HB.out | apply below_alloc | apply pw_below_drewN | apply below_drew1 | refine below_set ?_ GE262.out | refine below_set ?_ GE263.out | refine below_set ?_ GE302.out) | exact HB.out)⟩
                · rw [if_neg c78] at H
                  exact absurd H (by simp)
  · replace c5 := Bool.eq_false_iff.mpr c5
    subst c5
    have H1 : (none) = some r := by rw [if_neg (show ¬ (false = true) by decide)] at H; exact H
    clear H
    have H := H1
    clear H1
    exact absurd H (by simp)

end Go.Proofs.Ytekaiebfgcjddaa.PGraftBack
