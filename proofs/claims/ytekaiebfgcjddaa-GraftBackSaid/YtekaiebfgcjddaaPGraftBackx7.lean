/- A text of the session: functions of the program and their walks, laid by a program of its own (wip/tools/mkprint.py) over the translation. No condition. -/
import Derived.Test.YtekaiebfgcjddaaPGraftBackx0
import Derived.Test.YtekaiebfgcjddaaPGraftBackx6
namespace Go.Proofs.Ytekaiebfgcjddaa.PGraftBack
open Go.RowKit Go.Proofs.YtekaiebfgcjddaaW.PrintWords Go.Proofs.YtekaiebfgcjddaaW.PrintLast Go.Proofs.YtekaiebfgcjddaaW.PrintMore
attribute [local go_sem] max2_int min2_int max_two min_two max_three min_three max_four min_four   -- for this text's walks alone
set_option linter.unusedVariables false
set_option linter.unusedSimpArgs false

/-! ### graft_Flat: function 22 -/
def flat59 (l : List S59) : List Int := l.flatMap fun g => g.f0 ++ g.f1 ++ g.f2 ++ g.f3
def pre59 (g : S59) : Nat → List Int
  | 0 => []
  | k + 1 => pre59 g k ++ fl59 g k
theorem pre59_len (g : S59) (q : Nat) (h : q < 4) : (pre59 g q).length + (fl59 g q).length ≤ (pre59 g 4).length := by
  obtain rfl | rfl | rfl | rfl : q = 0 ∨ q = 1 ∨ q = 2 ∨ q = 3 := by omega
  all_goals simp only [pre59, List.length_append, List.length_nil]; omega
theorem flat59_take {l : List S59} {i : Nat} (h : i < l.length) : flat59 (l.take (i + 1)) = flat59 (l.take i) ++ pre59 (rd_T59 l (i : Int)) 4 := by
  rw [rd_T59_get h, List.take_succ_eq_append_getElem h]
  simp only [flat59, List.flatMap_append, List.flatMap_cons, List.flatMap_nil, List.append_nil, pre59, fl59, List.nil_append]
theorem flat59_le {l : List S59} {i : Nat} (h : i < l.length) : (flat59 (l.take i)).length + (pre59 (rd_T59 l (i : Int)) 4).length ≤ (flat59 l).length := by
  have h1 := flat59_take h
  have h2 : flat59 l = flat59 (l.take (i + 1)) ++ flat59 (l.drop (i + 1)) := by
    unfold flat59
    rw [← List.flatMap_append, List.take_append_drop]
  rw [h2, List.length_append, h1, List.length_append]
  omega
def graft_Flat.f (k : Nat) (a0_0 : Int) (a0_1 : Int) (l0_2 : List (S59)) (a1_0 : Int) (a1_1 : Int) (a1_2 : Int) (a1_3 : Int) (a1_4 : Int) (a1_5 : Int) (a1_6 : Int) (a1_7 : Int) : Option (List Int) := (graft_Check.f k a0_0 a0_1 l0_2 a1_0 a1_1 a1_2 a1_3 a1_4 a1_5 a1_6 a1_7).bind fun t => (if t = 0 then (if (flat59 l0_2).length < 140737488355328 then (some (flat59 l0_2)) else (none)) else (some []))
theorem graft_Flat.mono : ∀ a0 a1 a2 a3 a4 a5 a6 a7 a8 a9 a10 k, LeO (graft_Flat.f k a0 a1 a2 a3 a4 a5 a6 a7 a8 a9 a10) (graft_Flat.f (k + 1) a0 a1 a2 a3 a4 a5 a6 a7 a8 a9 a10) := by
  intro a0 a1 a2 a3 a4 a5 a6 a7 a8 a9 a10 k
  unfold graft_Flat.f
  repeat' first
      | (with_reducible exact LeO.refl _)
      | (with_reducible exact LeO.none _)
      | (with_reducible refine LeO.ite ?_ ?_)
      | (with_reducible exact graft_Check.mono _ _ _ _ _ _ _ _ _ _ _ _)
      | (with_reducible refine LeO.bind ?_ (fun _ => ?_))
set_option maxHeartbeats 8000000 in
set_option maxRecDepth 100000 in
theorem graft_Flat.calls (k : Nat) (a0_0 : Int) (a0_1 : Int) (A0_2 : Option Addr) (c0_2 : Nat) (l0_2 : List (S59)) (a1_0 : Int) (a1_1 : Int) (a1_2 : Int) (a1_3 : Int) (a1_4 : Int) (a1_5 : Int) (a1_6 : Int) (a1_7 : Int) (r : List Int) (w : World) (hr0_2 : Kd.C k59 w A0_2 l0_2.length l0_2) (hc0_2 : l0_2.length ≤ c0_2) (h : graft_Flat.f k a0_0 a0_1 l0_2 a1_0 a1_1 a1_2 a1_3 a1_4 a1_5 a1_6 a1_7 = some r) :
    Calls Try.prog 22 #[.agg #[.int .i64 a0_0, .int .i64 a0_1, .slice A0_2 l0_2.length c0_2], .agg #[.int .i64 a1_0, .int .i64 a1_1, .int .i64 a1_2, .int .i64 a1_3, .int .i64 a1_4, .int .i64 a1_5, .int .i64 a1_6, .int .i64 a1_7]] w fun e w' => ∃ v0_ : Value, e = .returned (v0_) ∧ Kd.R (Kd.int .i8) 69 w' w.heap.size (fun _ => True) v0_ r ∧ Below w.heap.size w w' := by
  have hu23 := Try.underlying23
  have hu27 := Try.underlying27
  have hu25 := Try.underlying25
  have hu59 := Try.underlying59
  have hu55 := Try.underlying55
  have HR := Aside0.mk hr0_2
  have HC := Aside0.mk hc0_2
  clear hr0_2 hc0_2
  have HI0 := Aside0.mk (TwoBlk.start w 27 23 #[.int .i64 a0_0, .int .i64 a0_1, .slice A0_2 l0_2.length c0_2] #[.int .i64 a1_0, .int .i64 a1_1, .int .i64 a1_2, .int .i64 a1_3, .int .i64 a1_4, .int .i64 a1_5, .int .i64 a1_6, .int .i64 a1_7])
  obtain ⟨t, ht, H⟩ := Option.bind_eq_some_iff.mp h
  clear h
  have HT := Aside0.mk ht
  clear ht
  by_cases c0 : t = 0
  · rw [if_pos c0] at H
    by_cases cL : (flat59 l0_2).length < 140737488355328
    · rw [if_pos cL] at H
      obtain rfl := Option.some.inj H
      clear H
      have CL := Aside0.mk cL
      clear cL
      have ct : (t != 0) = false := bne_eq_false_iff_eq.mpr c0
      clear c0
      go_enter Try.func22, Try.ntmps22
      go_wp2_with (first | ((with_reducible refine gate_callee (f := 19) rfl ?_); refine goesL_ (some 11) rfl rfl Try.func19 (by kernel_rfl) rfl #[.agg #[.int .i64 a0_0, .int .i64 a0_1, .slice A0_2 l0_2.length c0_2], .agg #[.int .i64 a1_0, .int .i64 a1_1, .int .i64 a1_2, .int .i64 a1_3, .int .i64 a1_4, .int .i64 a1_5, .int .i64 a1_6, .int .i64 a1_7]] rfl (by (try simp only [List.map_toArray, List.map_cons, List.map_nil]); first | done | rfl) ?_; (with_reducible refine (graft_Check.calls k a0_0 a0_1 A0_2 c0_2 l0_2 a1_0 a1_1 a1_2 a1_3 a1_4 a1_5 a1_6 a1_7 t _ (Kd.C_below HR.out HI0.out.bl) HC.out HT.out).mono ?_); rintro e w1 ⟨rfl, hb⟩; refine ⟨_, rfl, ?_⟩; have HI := Aside0.mk (HI0.out.below hb); clear hb HI0; have ha2 : w1.cell? ⟨w.heap.size, 2, none⟩ = some (.slice A0_2 l0_2.length c0_2) := (blk_cell HI.out.b1 2).trans rfl))
      clear ha2
      clear ct
      go_loopg [5, 16] l0_2.length (fun kq v5 v16 wr => ∃ i : Nat, v16 = .int .i64 (i : Int) ∧ i + kq = l0_2.length ∧ Aside0 (Kd.R (Kd.int .i8) 69 wr w.heap.size (fun _ => True) v5 (flat59 (l0_2.take i))) ∧ Aside0 (TwoBlk w w.heap.size (w.heap.size + 1) 27 23 #[.int .i64 a0_0, .int .i64 a0_1, .slice A0_2 l0_2.length c0_2] #[.int .i64 a1_0, .int .i64 a1_1, .int .i64 a1_2, .int .i64 a1_3, .int .i64 a1_4, .int .i64 a1_5, .int .i64 a1_6, .int .i64 a1_7] wr))
      case atStart => exact ⟨0, rfl, by omega, ⟨Kd.R_nil _ _ _ _ _⟩, HI⟩
      case round =>
        obtain ⟨i, rfl, hik, HO, HI2⟩ := hrel
        clear HI
        have HI := HI2
        clear HI2
        have ha2 : wr.cell? ⟨w.heap.size, 2, none⟩ = some (.slice A0_2 l0_2.length c0_2) := (blk_cell HI.out.b1 2).trans rfl
        have hlen : (l0_2.length : Int) ≤ 9223372036854775807 := by have := HR.out.2.1; omega
        by_cases ci : i < l0_2.length
        · have cb : decide ((i : Int) < (l0_2.length : Int)) = true := decide_eq_true (by omega)
          have cp := eq_true (show 0 ≤ (i : Int) by omega)
          have cq := eq_true (show (i : Int) < (l0_2.length : Int) by omega)
          have HL := Aside0.mk (Nat.lt_of_le_of_lt (flat59_le ci) CL.out)
          have HN := Aside0.mk (flat59_take ci)
          obtain ⟨ad, B0, d0, B1, d1, B2, d2, B3, d3, e_, hx0, hx1, hx2, hx3, _, hy0, _, hy1, _, hy2, _, hy3⟩ := at_T59 HR.out (i : Int) (by omega) (by omega)
          subst e_
          rw [Int.toNat_natCast] at hx0 hx1 hx2 hx3
          have HX := Aside0.mk (And.intro hx0 (And.intro hx1 (And.intro hx2 hx3)))
          have HY0 := Aside0.mk hy0
          have HY1 := Aside0.mk hy1
          have HY2 := Aside0.mk hy2
          have HY3 := Aside0.mk hy3
          clear hx0 hx1 hx2 hx3 hy0 hy1 hy2 hy3
          obtain ⟨P, hP⟩ : ∃ P, P = flat59 (l0_2.take i) := ⟨_, rfl⟩
          rw [← hP] at HO HL HN
          clear hP
          go_wp2_with (first | ((with_reducible refine gate_callee (f := 29) rfl ?_); refine goesL_ (some 23) rfl rfl Try.func29 (by kernel_rfl) rfl #[.pointer (some (ad.add (i * 4)))] rfl (by (try simp only [List.map_toArray, List.map_cons, List.map_nil]); first | done | rfl) ?_; (with_reducible refine (graft_lists.calls (ad.add (i * 4)) _).mono ?_); rintro e w2 ⟨rfl, hb⟩; refine ⟨_, rfl, ?_⟩; have HI2 := Aside0.mk (HI.out.below hb); have HO2 := Aside0.mk (Kd.R_below HO.out hb); clear hb HI HO; have HI := HI2; have HO := HO2; clear HI2 HO2; clear ha2; have ha2 : w2.cell? ⟨w.heap.size, 2, none⟩ = some (.slice (some ad) l0_2.length c0_2) := (blk_cell HI.out.b1 2).trans rfl))
          clear ha2
          go_loopg [5, 24] 4 (fun kq v5 v24 wr => ∃ q : Nat, v24 = .int .i64 (q : Int) ∧ q + kq = 4 ∧ Aside0 (Kd.R (Kd.int .i8) 69 wr w.heap.size (fun _ => True) v5 (P ++ pre59 (rd_T59 l0_2 (i : Int)) q)) ∧ Aside0 (TwoBlk w w.heap.size (w.heap.size + 1) 27 23 #[.int .i64 a0_0, .int .i64 a0_1, .slice (some ad) l0_2.length c0_2] #[.int .i64 a1_0, .int .i64 a1_1, .int .i64 a1_2, .int .i64 a1_3, .int .i64 a1_4, .int .i64 a1_5, .int .i64 a1_6, .int .i64 a1_7] wr))
          case atStart => exact ⟨0, rfl, by omega, ⟨by simpa [pre59] using HO.out⟩, HI⟩
          case round =>
            obtain ⟨q, rfl, hqk, HO2, HI2⟩ := hrel
            clear HI HO
            have HI := HI2
            have HO := HO2
            clear HI2 HO2
            have ha2 : wr.cell? ⟨w.heap.size, 2, none⟩ = some (.slice (some ad) l0_2.length c0_2) := (blk_cell HI.out.b1 2).trans rfl
            obtain ⟨hx0, hx1, hx2, hx3⟩ := HX.out
            replace hx0 := (HI.out.bl.cell (World.block_lt_of_cell? w _ hx0)).trans hx0
            replace hx1 := (HI.out.bl.cell (World.block_lt_of_cell? w _ hx1)).trans hx1
            replace hx2 := (HI.out.bl.cell (World.block_lt_of_cell? w _ hx2)).trans hx2
            replace hx3 := (HI.out.bl.cell (World.block_lt_of_cell? w _ hx3)).trans hx3
            obtain rfl | rfl | rfl | rfl | rfl : q = 0 ∨ q = 1 ∨ q = 2 ∨ q = 3 ∨ q = 4 := by omega
            · have ix_ := idx4_0 (some (ad.add (i * 4))) (some ⟨(ad.add (i * 4)).block, (ad.add (i * 4)).off + 1, none⟩) (some ⟨(ad.add (i * 4)).block, (ad.add (i * 4)).off + 2, none⟩) (some ⟨(ad.add (i * 4)).block, (ad.add (i * 4)).off + 3, none⟩)
              go_wp2_with (first | ((with_reducible refine gate_builtin (b := .append) (xs := #[.tmp 27, .tmp 30]) rfl ?_); at_builtin; refine Kd.R_append_rows (Kd.int .i8) (w0 := w) w.heap.size rfl (.tmp 27) (.tmp 30) 24 69 (.int .i8 0) 1 rfl Try.underlying24 info69 rfl (by decide) (by omega) u5 (P ++ pre59 (rd_T59 l0_2 (i : Int)) 0) (rd_T59 l0_2 (i : Int)).f0 _ _ _ (fun _ => True) (fun _ => False) rfl rfl HO.out (Kd.C_below HY0.out HI.out.bl) (fun _ _ h => h) (fun _ h => h.elim) (fun _ _ => trivial) HI.out.bl HI.out.bl.size ?aL ?_; (case aL => have h1 := HL.out; have h2 := pre59_len (rd_T59 l0_2 (i : Int)) 0 (by omega); rw [List.length_append]; simp only [fl59] at h2; omega); intro v1 w3 ho hb hg hat; have HI2 : Aside0 (TwoBlk w w.heap.size (w.heap.size + 1) 27 23 #[.int .i64 a0_0, .int .i64 a0_1, .slice (some ad) l0_2.length c0_2] #[.int .i64 a1_0, .int .i64 a1_1, .int .i64 a1_2, .int .i64 a1_3, .int .i64 a1_4, .int .i64 a1_5, .int .i64 a1_6, .int .i64 a1_7] w3) := ⟨⟨blk_grown HI.out.b1 hg (Kd.R_ne HO.out HI.out.b1 (by decide)), blk_grown HI.out.b2 hg (Kd.R_ne HO.out HI.out.b2 (by decide)), hb⟩⟩; have HO2 := Aside0.mk ho; clear HI HO hb hg hat ho; have HI := HI2; have HO := HO2; clear HI2 HO2))
              go_roundg 3
              case measure => omega
              case rel => exact ⟨1, rfl, by omega, ⟨by have h := HO.out; rw [List.append_assoc] at h; exact h⟩, HI⟩
            · have ix_ := idx4_1 (some (ad.add (i * 4))) (some ⟨(ad.add (i * 4)).block, (ad.add (i * 4)).off + 1, none⟩) (some ⟨(ad.add (i * 4)).block, (ad.add (i * 4)).off + 2, none⟩) (some ⟨(ad.add (i * 4)).block, (ad.add (i * 4)).off + 3, none⟩)
              go_wp2_with (first | ((with_reducible refine gate_builtin (b := .append) (xs := #[.tmp 27, .tmp 30]) rfl ?_); at_builtin; refine Kd.R_append_rows (Kd.int .i8) (w0 := w) w.heap.size rfl (.tmp 27) (.tmp 30) 24 69 (.int .i8 0) 1 rfl Try.underlying24 info69 rfl (by decide) (by omega) u5 (P ++ pre59 (rd_T59 l0_2 (i : Int)) 1) (rd_T59 l0_2 (i : Int)).f1 _ _ _ (fun _ => True) (fun _ => False) rfl rfl HO.out (Kd.C_below HY1.out HI.out.bl) (fun _ _ h => h) (fun _ h => h.elim) (fun _ _ => trivial) HI.out.bl HI.out.bl.size ?aL ?_; (case aL => have h1 := HL.out; have h2 := pre59_len (rd_T59 l0_2 (i : Int)) 1 (by omega); rw [List.length_append]; simp only [fl59] at h2; omega); intro v1 w3 ho hb hg hat; have HI2 : Aside0 (TwoBlk w w.heap.size (w.heap.size + 1) 27 23 #[.int .i64 a0_0, .int .i64 a0_1, .slice (some ad) l0_2.length c0_2] #[.int .i64 a1_0, .int .i64 a1_1, .int .i64 a1_2, .int .i64 a1_3, .int .i64 a1_4, .int .i64 a1_5, .int .i64 a1_6, .int .i64 a1_7] w3) := ⟨⟨blk_grown HI.out.b1 hg (Kd.R_ne HO.out HI.out.b1 (by decide)), blk_grown HI.out.b2 hg (Kd.R_ne HO.out HI.out.b2 (by decide)), hb⟩⟩; have HO2 := Aside0.mk ho; clear HI HO hb hg hat ho; have HI := HI2; have HO := HO2; clear HI2 HO2))
              go_roundg 2
              case measure => omega
              case rel => exact ⟨2, rfl, by omega, ⟨by have h := HO.out; rw [List.append_assoc] at h; exact h⟩, HI⟩
            · have ix_ := idx4_2 (some (ad.add (i * 4))) (some ⟨(ad.add (i * 4)).block, (ad.add (i * 4)).off + 1, none⟩) (some ⟨(ad.add (i * 4)).block, (ad.add (i * 4)).off + 2, none⟩) (some ⟨(ad.add (i * 4)).block, (ad.add (i * 4)).off + 3, none⟩)
              go_wp2_with (first | ((with_reducible refine gate_builtin (b := .append) (xs := #[.tmp 27, .tmp 30]) rfl ?_); at_builtin; refine Kd.R_append_rows (Kd.int .i8) (w0 := w) w.heap.size rfl (.tmp 27) (.tmp 30) 24 69 (.int .i8 0) 1 rfl Try.underlying24 info69 rfl (by decide) (by omega) u5 (P ++ pre59 (rd_T59 l0_2 (i : Int)) 2) (rd_T59 l0_2 (i : Int)).f2 _ _ _ (fun _ => True) (fun _ => False) rfl rfl HO.out (Kd.C_below HY2.out HI.out.bl) (fun _ _ h => h) (fun _ h => h.elim) (fun _ _ => trivial) HI.out.bl HI.out.bl.size ?aL ?_; (case aL => have h1 := HL.out; have h2 := pre59_len (rd_T59 l0_2 (i : Int)) 2 (by omega); rw [List.length_append]; simp only [fl59] at h2; omega); intro v1 w3 ho hb hg hat; have HI2 : Aside0 (TwoBlk w w.heap.size (w.heap.size + 1) 27 23 #[.int .i64 a0_0, .int .i64 a0_1, .slice (some ad) l0_2.length c0_2] #[.int .i64 a1_0, .int .i64 a1_1, .int .i64 a1_2, .int .i64 a1_3, .int .i64 a1_4, .int .i64 a1_5, .int .i64 a1_6, .int .i64 a1_7] w3) := ⟨⟨blk_grown HI.out.b1 hg (Kd.R_ne HO.out HI.out.b1 (by decide)), blk_grown HI.out.b2 hg (Kd.R_ne HO.out HI.out.b2 (by decide)), hb⟩⟩; have HO2 := Aside0.mk ho; clear HI HO hb hg hat ho; have HI := HI2; have HO := HO2; clear HI2 HO2))
              go_roundg 1
              case measure => omega
              case rel => exact ⟨3, rfl, by omega, ⟨by have h := HO.out; rw [List.append_assoc] at h; exact h⟩, HI⟩
            · have ix_ := idx4_3 (some (ad.add (i * 4))) (some ⟨(ad.add (i * 4)).block, (ad.add (i * 4)).off + 1, none⟩) (some ⟨(ad.add (i * 4)).block, (ad.add (i * 4)).off + 2, none⟩) (some ⟨(ad.add (i * 4)).block, (ad.add (i * 4)).off + 3, none⟩)
              go_wp2_with (first | ((with_reducible refine gate_builtin (b := .append) (xs := #[.tmp 27, .tmp 30]) rfl ?_); at_builtin; refine Kd.R_append_rows (Kd.int .i8) (w0 := w) w.heap.size rfl (.tmp 27) (.tmp 30) 24 69 (.int .i8 0) 1 rfl Try.underlying24 info69 rfl (by decide) (by omega) u5 (P ++ pre59 (rd_T59 l0_2 (i : Int)) 3) (rd_T59 l0_2 (i : Int)).f3 _ _ _ (fun _ => True) (fun _ => False) rfl rfl HO.out (Kd.C_below HY3.out HI.out.bl) (fun _ _ h => h) (fun _ h => h.elim) (fun _ _ => trivial) HI.out.bl HI.out.bl.size ?aL ?_; (case aL => have h1 := HL.out; have h2 := pre59_len (rd_T59 l0_2 (i : Int)) 3 (by omega); rw [List.length_append]; simp only [fl59] at h2; omega); intro v1 w3 ho hb hg hat; have HI2 : Aside0 (TwoBlk w w.heap.size (w.heap.size + 1) 27 23 #[.int .i64 a0_0, .int .i64 a0_1, .slice (some ad) l0_2.length c0_2] #[.int .i64 a1_0, .int .i64 a1_1, .int .i64 a1_2, .int .i64 a1_3, .int .i64 a1_4, .int .i64 a1_5, .int .i64 a1_6, .int .i64 a1_7] w3) := ⟨⟨blk_grown HI.out.b1 hg (Kd.R_ne HO.out HI.out.b1 (by decide)), blk_grown HI.out.b2 hg (Kd.R_ne HO.out HI.out.b2 (by decide)), hb⟩⟩; have HO2 := Aside0.mk ho; clear HI HO hb hg hat ho; have HI := HI2; have HO := HO2; clear HI2 HO2))
              go_roundg 0
              case measure => omega
              case rel => exact ⟨4, rfl, by omega, ⟨by have h := HO.out; rw [List.append_assoc] at h; exact h⟩, HI⟩
            · go_wp2
              go_roundg (l0_2.length - i - 1)
              case measure => omega
              case rel => exact ⟨i + 1, by simp, by omega, ⟨by rw [HN.out]; exact HO.out⟩, HI⟩
        · have cb : decide ((i : Int) < (l0_2.length : Int)) = false := decide_eq_false (by omega)
          go_wp2
          go_ret
          exact ⟨_, rfl, by have h := HO.out; rw [List.take_of_length_le (by omega)] at h; exact h, HI.out.bl⟩
    · rw [if_neg cL] at H
      exact absurd H (by simp)
  · rw [if_neg c0] at H
    obtain rfl := Option.some.inj H
    have ct : (t != 0) = true := bne_iff_ne.mpr c0
    clear c0
    go_enter Try.func22, Try.ntmps22
    go_wp2_with (first | ((with_reducible refine gate_callee (f := 19) rfl ?_); refine goesL_ (some 11) rfl rfl Try.func19 (by kernel_rfl) rfl #[.agg #[.int .i64 a0_0, .int .i64 a0_1, .slice A0_2 l0_2.length c0_2], .agg #[.int .i64 a1_0, .int .i64 a1_1, .int .i64 a1_2, .int .i64 a1_3, .int .i64 a1_4, .int .i64 a1_5, .int .i64 a1_6, .int .i64 a1_7]] rfl (by (try simp only [List.map_toArray, List.map_cons, List.map_nil]); first | done | rfl) ?_; (with_reducible refine (graft_Check.calls k a0_0 a0_1 A0_2 c0_2 l0_2 a1_0 a1_1 a1_2 a1_3 a1_4 a1_5 a1_6 a1_7 t _ (Kd.C_below HR.out HI0.out.bl) HC.out HT.out).mono ?_); rintro e w1 ⟨rfl, hb⟩; refine ⟨_, rfl, ?_⟩; have HI := Aside0.mk (HI0.out.below hb); clear hb HI0; have ha2 : w1.cell? ⟨w.heap.size, 2, none⟩ = some (.slice A0_2 l0_2.length c0_2) := (blk_cell HI.out.b1 2).trans rfl))
    go_ret
    exact ⟨_, rfl, Kd.R_nil _ _ _ _ _, HI.out.bl⟩

/-! ### bytes_Two: function 37 -/
def bytes_Two.f (a0 : Int) : Option (ByteArray) := some (strOfNums (([(a0) % 256, (a0 / 256) % 256] : List Int)))
set_option maxHeartbeats 8000000 in
set_option maxRecDepth 100000 in
theorem bytes_Two.calls (a0 : Int) (r : ByteArray) (w : World) (h : bytes_Two.f a0 = some r) :
    Calls Try.prog 37 #[.int .i64 a0] w fun e w' => e = .returned (.string r) ∧ Below w.heap.size w w' := by
  have HB := Aside0.mk (Below.refl w.heap.size w)
  have H : (some (strOfNums (([(a0) % 256, (a0 / 256) % 256] : List Int)))) = some r := h
  clear h
  obtain ⟨y116, hy116⟩ : ∃ y_ : List Int, y_ = (([(a0) % 256, (a0 / 256) % 256] : List Int)) := ⟨_, rfl⟩
  replace H : (some (strOfNums y116)) = some r := by first | (rw [hy116]; with_reducible exact H) | (have H2_ := (Option.bind_some _ _).symm.trans H; rw [hy116]; with_reducible exact H2_) | (have H2_ := (Option.bind_some _ _).symm.trans H; with_reducible exact H2_) | with_reducible exact H | (rw [hy116]; exact H) | exact H
  have Ny116 := Aside0.mk hy116
  clear hy116
  obtain rfl := Option.some.inj H
  go_enter Try.func37, Try.ntmps37
  go_wp2_with (first | ((with_reducible refine gate_dst (N := 8) rfl ?_); refine Kd.R_lit (Kd.int .u8) _ 5 ?hg (N := 8) ?hd (xs := ([(a0) % 256, (a0 / 256) % 256] : List Int)) (inner := [.int .u8 ((a0) % 256), .int .u8 ((a0 / 256) % 256)]) (ok := fun _ => True) (okp := fun _ => True) ?hr ?hp (fun _ hk => hk) trivial (Below.refl _ _) (Nat.le_refl _) (by simp) ?_; (case hd => rfl); (case hg => rfl); (case hr => first | (go_simp; done) | (go_simp; rfl)); (case hp => exact (Reps.one (show Kd.M (Kd.int .u8) _ _ _ ((a0) % 256) [.int .u8 ((a0) % 256)] from rfl) (Reps.one (show Kd.M (Kd.int .u8) _ _ _ ((a0 / 256) % 256) [.int .u8 ((a0 / 256) % 256)] from rfl) (Reps.none _ _)))); intro v117 w2 ho3 hb hg_ hnew_; clear hg_ hnew_; (first | rw [← Ny116.out] at ho3 | (simp only [Int.reduceToNat] at ho3; rw [← Ny116.out] at ho3)); have n0_ := Aside0.mk (Kd.R_lower ho3 (below_size by_)); have n1_ := Aside0.mk (below_step by_ hb); clear HB; have HO118 := n0_; have HB := n1_; clear n0_ n1_; clear hb ho3; have hcv4 := own_string (P := Try.prog) Try.underlying85 Try.underlying5 Try.underlying9 (Kd.own_of_R HO118.out)))
  go_ret
  exact ⟨by first | rfl | (simp [errW_none, errW_some] <;> rfl) | (simp [*, errW_none, errW_some] <;> rfl), by repeat (first | (with_reducible first | exact HB.out | apply below_alloc | apply pw_below_drewN | apply below_drew1) | exact HB.out)⟩

/-! ### bytes_Sum: function 56 -/
def bytes_Sum.l0 : Nat → List Int → Int → Int → Int → Option (Int)
  | 0, _, _, _, _ => none
  | k + 1, x0, x3, x4, x5 => if x5 < (x0.length : Int) then (if 0 ≤ x5 then (bytes_Sum.l0 k x0 (Int.tmod (wrap64 (x3 + (wrap64 (rd x0 x5)))) 255) (Int.tmod (wrap64 (x4 + (Int.tmod (wrap64 (x3 + (wrap64 (rd x0 x5)))) 255))) 255) (wrap64 (x5 + 1))) else (none)) else (some (wrap64 ((wrap64 (256 * x4)) + x3)))
def bytes_Sum.f (k : Nat) (a0 : ByteArray) : Option (Int) := if a0.size ≤ 4611686018427387904 then bytes_Sum.l0 k (bytesOf a0) 0 0 0 else none
theorem bytes_Sum.mono_l : ∀ k, (∀ y0 y1 y2 y3, LeO (bytes_Sum.l0 k y0 y1 y2 y3) (bytes_Sum.l0 (k + 1) y0 y1 y2 y3))
  | 0 => fun _ _ _ _ r h => by simp [bytes_Sum.l0] at h
  | k + 1 => by
    have ih0 := bytes_Sum.mono_l k
    · intro y0 y1 y2 y3
      unfold bytes_Sum.l0
      repeat' first
      | (with_reducible exact ih0 _ _ _ _)
      | (with_reducible exact LeO.refl _)
      | (with_reducible exact LeO.none _)
      | (with_reducible refine LeO.ite ?_ ?_)
      | exact ih0 _ _ _ _
      | exact LeO.none _
      | refine LeO.ite ?_ ?_
theorem bytes_Sum.mono : ∀ a0 k, LeO (bytes_Sum.f k a0) (bytes_Sum.f (k + 1) a0) := by
  intro a0 k
  have ih0 := bytes_Sum.mono_l k
  unfold bytes_Sum.f
  exact LeO.ite (ih0 _ _ _ _) (LeO.none _)
set_option maxHeartbeats 8000000 in
set_option maxRecDepth 100000 in
theorem bytes_Sum.calls (k : Nat) (a0 : ByteArray) (r : Int) (w : World) (h : bytes_Sum.f k a0 = some r) :
    Calls Try.prog 56 #[.string a0] w fun e w' => e = .returned (.int .i64 r) ∧ Below w.heap.size w w' := by
  have hz : a0.size ≤ 4611686018427387904 := by
    unfold bytes_Sum.f at h
    split at h
    · assumption
    · cases h
  unfold bytes_Sum.f at h
  rw [if_pos hz] at h
  obtain ⟨L, hL⟩ : ∃ L, L = bytesOf a0 := ⟨_, rfl⟩
  rw [← hL] at h
  have H' := Aside0.mk h
  have NL := Aside0.mk hL
  have NZ := Aside0.mk hz
  clear h hL hz
  go_enter Try.func56, Try.ntmps56
  go_wp2_with (first | ((with_reducible refine gate_dst (N := 8) rfl ?_); refine OwnB.event rfl (N := 8) rfl 9 85 5 _ rfl Try.underlying9 Try.underlying85 Try.underlying5 a0 rfl (Nat.le_trans NZ.out (by decide)) (Nat.le_refl _) ?_; intro v1 w1 ho hb hbl; rw [← NL.out] at ho; obtain ⟨g, cap, rfl, hgb⟩ := ho.slice; have HB := Aside0.mk hb; have HO := Aside0.mk ho; clear ho hb hbl hgb))
  go_loopg [3, 4, 10] k (fun kq v3 v4 v5 w' => ∃ (x3_1 : Int) (x4_1 : Int) (x5_1 : Int), v3 = .int .i64 x3_1 ∧ v4 = .int .i64 x4_1 ∧ v5 = .int .i64 x5_1 ∧ Aside0 (bytes_Sum.l0 kq L x3_1 x4_1 x5_1 = some r) ∧ Aside0 (kq ≤ k) ∧ w1 = w')
  case atStart => exact ⟨(0), (0), (0), (by first | rfl | (simp; done) | (simp [*]; done)), (by first | rfl | (simp; done) | (simp [*]; done)), (by first | rfl | (simp; done) | (simp [*]; done)), H', ⟨Nat.le_refl _⟩, rfl⟩
  case round =>
    clear H'
    obtain ⟨x3_1, x4_1, x5_1, rfl, rfl, rfl, HA, HK1, rfl⟩ := hrel
    cases gk with
    | zero => exact absurd HA.out (by simp [bytes_Sum.l0])
    | succ k1 =>
      have H := HA.out
      clear HA
      simp only [bytes_Sum.l0] at H
      by_cases c2 : x5_1 < (L.length : Int)
      · rw [if_pos c2] at H
        have c2b0 : decide (x5_1 < (L.length : Int)) = true := decide_eq_true c2
        by_cases c3 : 0 ≤ x5_1
        · rw [if_pos c3] at H
          have c3b0 : decide (0 ≤ x5_1) = true := decide_eq_true c3
          have H' := Aside0.mk H
          clear H
          obtain ⟨g4, cap4, e4, _, hx4, _, _⟩ := HO.out.at_ x5_1 c3 c2
          injection e4 with e4a e4b e4c
          injection e4a with e4a
          injection e4a with e4a
          subst e4a
          clear e4b e4c
          have p4 := eq_true c3
          have q4 := eq_true c2
          clear c2 c3
          go_wp2
          go_roundg k1
          case measure => have := HK1.out; omega
          case rel => exact ⟨(Int.tmod (wrap64 (x3_1 + (wrap64 (rd L x5_1)))) 255), (Int.tmod (wrap64 (x4_1 + (Int.tmod (wrap64 (x3_1 + (wrap64 (rd L x5_1)))) 255))) 255), (wrap64 (x5_1 + 1)), (by first | rfl | (simp; done) | (simp [*]; done)), (by first | rfl | (simp; done) | (simp [*]; done)), (by first | rfl | (simp; done) | (simp [*]; done)), H', ⟨by have := HK1.out; omega⟩, rfl⟩
        · rw [if_neg c3] at H
          exact absurd H (by simp)
      · rw [if_neg c2] at H
        have c2b0 : decide (x5_1 < (L.length : Int)) = false := decide_eq_false c2
        clear c2
        obtain rfl := Option.some.inj H
        go_wp2
        go_ret
        exact ⟨by first | rfl | (simp; done) | (simp [*]; done), HB.out⟩

/-! ### bytes_Seal: function 36 -/
def bytes_Seal.f (k : Nat) (a0 : ByteArray) : Option (ByteArray) := (bytes_Sum.f k a0).bind fun t119 => ((bytes_Two.f t119).bind fun t120 => (if a0.size + t120.size ≤ 9223372036854775807 then (some (a0 ++ t120)) else (none)))
theorem bytes_Seal.mono : ∀ a0 k, LeO (bytes_Seal.f k a0) (bytes_Seal.f (k + 1) a0) := by
  intro a0 k
  unfold bytes_Seal.f
  repeat' first
      | (with_reducible exact bytes_Sum.mono _ _)
      | (with_reducible exact LeO.refl _)
      | (with_reducible exact LeO.none _)
      | (with_reducible refine LeO.ite ?_ ?_)
      | (with_reducible refine LeO.bind ?_ (fun _ => ?_))
      | exact bytes_Sum.mono _ _
      | exact LeO.none _
      | refine LeO.ite ?_ ?_
      | refine LeO.bind ?_ (fun _ => ?_)
set_option maxHeartbeats 8000000 in
set_option maxRecDepth 100000 in
theorem bytes_Seal.calls (k : Nat) (a0 : ByteArray) (r : ByteArray) (w : World) (h : bytes_Seal.f k a0 = some r) :
    Calls Try.prog 36 #[.string a0] w fun e w' => e = .returned (.string r) ∧ Below w.heap.size w w' := by
  have HB := Aside0.mk (Below.refl w.heap.size w)
  have H : ((bytes_Sum.f k a0).bind fun t119 => ((bytes_Two.f t119).bind fun t120 => (if a0.size + t120.size ≤ 9223372036854775807 then (some (a0 ++ t120)) else (none)))) = some r := h
  clear h
  replace H := Option.bind_eq_some_iff.mp H
  obtain ⟨t119, A20, H⟩ := H
  replace H : ((bytes_Two.f t119).bind fun t120 => (if a0.size + t120.size ≤ 9223372036854775807 then (some (a0 ++ t120)) else (none))) = some r := H
  have A2 := Aside0.mk A20
  clear A20
  replace H := Option.bind_eq_some_iff.mp H
  obtain ⟨t120, A30, H⟩ := H
  replace H : (if a0.size + t120.size ≤ 9223372036854775807 then (some (a0 ++ t120)) else (none)) = some r := H
  have A3 := Aside0.mk A30
  clear A30
  by_cases c4 : a0.size + t120.size ≤ 9223372036854775807
  · rw [if_pos c4] at H
    have c4b0 := eq_true c4
    have c4b1 : decide (a0.size + t120.size ≤ 9223372036854775807) = true := decide_eq_true c4
    try have c4b2 : (9223372036854775807 < a0.size + t120.size) = False := eq_false (Nat.not_lt.2 c4)
    obtain rfl := Option.some.inj H
    go_enter Try.func36, Try.ntmps36
    go_wp2_with (first | ((with_reducible refine gate_callee (f := 56) rfl ?_); refine goesL_ (some 5) rfl rfl Try.func56 (by kernel_rfl) rfl #[.string a0] rfl ar_ ?_; (with_reducible refine (bytes_Sum.calls k a0 t119 _ A2.out).mono ?_); rintro e w5 ⟨rfl, hb⟩; refine ⟨_, rfl, ?_⟩; have n0_ := Aside0.mk (below_step by_ hb); clear HB; have HB := n0_; clear n0_; (try clear hb); (try clear hb2); (try clear hk); (try clear hi)) | ((with_reducible refine gate_callee (f := 37) rfl ?_); refine goesL_ (some 6) rfl rfl Try.func37 (by kernel_rfl) rfl #[.int .i64 t119] rfl ar_ ?_; (with_reducible refine (bytes_Two.calls t119 t120 _ A3.out).mono ?_); rintro e w6 ⟨rfl, hb⟩; refine ⟨_, rfl, ?_⟩; have n0_ := Aside0.mk (below_step by_ hb); clear HB; have HB := n0_; clear n0_; (try clear hb); (try clear hb2); (try clear hk); (try clear hi)))
    go_ret
    exact ⟨by first | rfl | (simp [errW_none, errW_some] <;> rfl) | (simp [*, errW_none, errW_some] <;> rfl), by repeat (first | (with_reducible first | exact HB.out | apply below_alloc | apply pw_below_drewN | apply below_drew1) | exact HB.out)⟩
  · rw [if_neg c4] at H
    exact absurd H (by simp)

/-! ### bytes_Weights: function 38 -/
def bytes_Weights.l0 : Nat → List Int → List Int → Int → Int → Option (ByteArray)
  | 0, _, _, _, _ => none
  | k + 1, x3, x15, x16, x17 => if x17 < x16 then (if 0 ≤ x17 then (if x17 < (x15.length : Int) then (if x3.length < 140737488355328 then (bytes_Weights.l0 k (x3 ++ [(rd x15 x17) % 256]) x15 x16 (wrap64 (x17 + 1))) else (none)) else (none)) else (none)) else (some (strOfNums x3))
def bytes_Weights.f (k : Nat) (l0 : List Int) : Option (ByteArray) := (bytes_Two.f ((min l0.length 65535 : Nat) : Int)).bind fun t105 => (if t105.size ≤ 4611686018427387904 then bytes_Weights.l0 k (bytesOf t105) (l0.take (min l0.length 65535)) ((min l0.length 65535 : Nat) : Int) 0 else (none))
theorem bytes_Weights.mono_l : ∀ k, (∀ y0 y1 y2 y3, LeO (bytes_Weights.l0 k y0 y1 y2 y3) (bytes_Weights.l0 (k + 1) y0 y1 y2 y3))
  | 0 => fun _ _ _ _ r h => by simp [bytes_Weights.l0] at h
  | k + 1 => by
    have ih0 := bytes_Weights.mono_l k
    · intro y0 y1 y2 y3
      unfold bytes_Weights.l0
      repeat' first
      | (with_reducible exact ih0 _ _ _ _)
      | (with_reducible exact LeO.refl _)
      | (with_reducible exact LeO.none _)
      | (with_reducible refine LeO.ite ?_ ?_)
      | (with_reducible refine LeO.bind ?_ (fun _ => ?_))
      | exact ih0 _ _ _ _
      | exact LeO.none _
      | refine LeO.ite ?_ ?_
      | refine LeO.bind ?_ (fun _ => ?_)
theorem bytes_Weights.mono : ∀ a0 k, LeO (bytes_Weights.f k a0) (bytes_Weights.f (k + 1) a0) := by
  intro a0 k
  have ih0 := bytes_Weights.mono_l k
  unfold bytes_Weights.f
  repeat' first
      | (with_reducible exact ih0 _ _ _ _)
      | (with_reducible exact LeO.refl _)
      | (with_reducible exact LeO.none _)
      | (with_reducible refine LeO.ite ?_ ?_)
      | (with_reducible refine LeO.bind ?_ (fun _ => ?_))
      | exact ih0 _ _ _ _
      | exact LeO.none _
      | refine LeO.ite ?_ ?_
      | refine LeO.bind ?_ (fun _ => ?_)
set_option maxHeartbeats 8000000 in
set_option maxRecDepth 100000 in
theorem bytes_Weights.calls (k : Nat) (A0 : Option Addr) (c0 : Nat) (l0 : List Int) (r : ByteArray) (w : World) (hr0 : Kd.C (Kd.int .i8) w A0 l0.length l0) (hc0 : l0.length ≤ c0) (h : bytes_Weights.f k l0 = some r) :
    Calls Try.prog 38 #[.slice A0 l0.length c0] w fun e w' => e = .returned (.string r) ∧ Below w.heap.size w w' := by
  have HR0 := Aside0.mk hr0
  have HC0 := Aside0.mk hc0
  clear hr0 hc0
  have HB := Aside0.mk (Below.refl w.heap.size w)
  obtain ⟨n, hn⟩ : ∃ n : Nat, n = min l0.length 65535 := ⟨_, rfl⟩
  have hmin : (if 65535 < (l0.length : Int) then 65535 else (l0.length : Int)) = (n : Int) := by split <;> omega
  have hnl : n ≤ l0.length := by omega
  have H : ((bytes_Two.f (n : Int)).bind fun t105 => (if t105.size ≤ 4611686018427387904 then bytes_Weights.l0 k (bytesOf t105) (l0.take n) (n : Int) 0 else (none))) = some r := by rw [hn]; exact h
  clear h
  have hln : (l0.take n).length = n := by rw [List.length_take]; omega
  obtain ⟨L, hL⟩ : ∃ L, L = l0.take n := ⟨_, rfl⟩
  rw [← hL] at H hln
  have NL := Aside0.mk hL
  have NN := Aside0.mk hln
  replace H := Option.bind_eq_some_iff.mp H
  obtain ⟨t105, A50, H⟩ := H
  have cz : t105.size ≤ 4611686018427387904 := by (by_cases cz : t105.size ≤ 4611686018427387904; exact cz; rw [if_neg cz] at H; cases H)
  rw [if_pos cz] at H
  have NZ := Aside0.mk cz
  clear cz
  have A5 := Aside0.mk A50
  clear A50
  obtain ⟨y106, hy106⟩ : ∃ y_ : List Int, y_ = (bytesOf t105) := ⟨_, rfl⟩
  replace H : (bytes_Weights.l0 k y106 L (n : Int) 0) = some r := by first | (rw [hy106]; with_reducible exact H) | (have H2_ := (Option.bind_some _ _).symm.trans H; rw [hy106]; with_reducible exact H2_) | (have H2_ := (Option.bind_some _ _).symm.trans H; with_reducible exact H2_) | with_reducible exact H | (rw [hy106]; exact H) | exact H
  have Ny106 := Aside0.mk hy106
  clear hy106
  have H' := Aside0.mk H
  clear H
  have hln6 := NN.out
  obtain ⟨i06, hi06, _, hsz6, _⟩ := info_parts info69
  obtain ⟨hcut6, hA6, hC6⟩ := print_take_of (P := Try.prog) (Value.int .i8) 0 24 69 .i64 Try.underlying24 hi06 hsz6 A0 c0 l0 (n : Int) (Int.natCast_nonneg n) (Int.ofNat_le.2 hnl) HC0.out
  simp only [Int.toNat_natCast] at hcut6 hA6 hC6
  rw [← NL.out] at hcut6 hA6 hC6
  have HR104 := Aside0.mk (Kd.C_of_reads (h1 := fun _ => rfl) (hA6 _ (Kd.reads_of_C HR0.out)))
  rw [NN.out] at hcut6 hC6
  have HC104 := Aside0.mk hC6
  have c3b1 : decide (0 ≤ (n : Int)) = true := decide_eq_true (Int.natCast_nonneg n)
  have c4b1 : decide ((n : Int) ≤ (l0.length : Int)) = true := decide_eq_true (Int.ofNat_le.2 hnl)
  clear hA6 hC6 hi06 hsz6 hln6 hln hL hn hnl
  go_enter Try.func38, Try.ntmps38
  go_wp2_with (first | ((with_reducible refine gate_callee (f := 37) rfl ?_); refine goesL_ (some 13) rfl rfl Try.func37 (by kernel_rfl) rfl #[.int .i64 (n : Int)] rfl (by (try simp only [List.map_toArray, List.map_cons, List.map_nil]); first | done | rfl | (simp; done)) ?_; (with_reducible refine (bytes_Two.calls (n : Int) t105 _ A5.out).mono ?_); rintro e w7 ⟨rfl, hb⟩; refine ⟨_, rfl, ?_⟩; have n0_ := Aside0.mk (below_step by_ hb); clear HB; have HB := n0_; clear n0_; (try clear hb); (try clear hb2); (try clear hk); (try clear hi)) | ((with_reducible refine gate_dst (N := 14) rfl ?_); refine OwnB.event rfl (N := 14) rfl 9 85 5 _ rfl Try.underlying9 Try.underlying85 Try.underlying5 t105 rfl (Nat.le_trans NZ.out (by decide)) (base := w.heap.size) (below_size by_) ?_; intro v107 w8 ho9 hb hbl; clear hbl; rw [← Ny106.out] at ho9; have n0_ := Aside0.mk ho9; have n1_ := Aside0.mk (below_step by_ hb); clear HB; have HO108 := n0_; have HB := n1_; clear n0_ n1_; clear hb ho9))
  go_loopg [3, 17] k (fun kq v3 v17 w' => ∃ (x3_1 : List Int) (x17_1 : Int), v17 = .int .i64 x17_1 ∧ Aside0 (bytes_Weights.l0 kq x3_1 L (n : Int) x17_1 = some r) ∧ Aside0 (kq ≤ k) ∧ Aside0 (OwnB w' w.heap.size 5 v3 x3_1) ∧ Aside0 (Below w.heap.size w w'))
  case atStart => exact ⟨(y106), (0), (by first | rfl | (simp; done) | (simp [*]; done)), H', ⟨Nat.le_refl _⟩, ⟨by (with_reducible repeat (first | apply OwnB.alloc | apply OwnB.drewN)); exact HO108.out⟩, ⟨by repeat (first | (with_reducible first | exact HB.out | apply below_alloc | apply pw_below_drewN | apply below_drew1) | exact HB.out)⟩⟩
  case round =>
    clear H'
    try clear c1
    try clear p2
    try clear hcut6
    try clear hmin
    try clear c3b1
    try clear c4b1
    obtain ⟨x3_1, x17_1, rfl, HA, HK1, HO_3, HB⟩ := hrel
    cases gk with
    | zero => exact absurd HA.out (by simp [bytes_Weights.l0])
    | succ k1 =>
      have H := HA.out
      clear HA
      simp only [bytes_Weights.l0] at H
      by_cases c10 : x17_1 < (n : Int)
      · rw [if_pos c10] at H
        have c10b0 : decide (x17_1 < (n : Int)) = true := decide_eq_true c10
        clear c10
        by_cases c11 : 0 ≤ x17_1
        · rw [if_pos c11] at H
          have c11b0 : decide (0 ≤ x17_1) = true := decide_eq_true c11
          clear c11
          by_cases c12 : x17_1 < (L.length : Int)
          · rw [if_pos c12] at H
            skip
            clear c12
            by_cases c13 : x3_1.length < 140737488355328
            · rw [if_pos c13] at H
              have LMc13 := Aside0.mk c13
              clear c13
              obtain ⟨y110, hy110⟩ : ∃ y_ : List Int, y_ = (x3_1 ++ [(rd L x17_1) % 256]) := ⟨_, rfl⟩
              replace H : (bytes_Weights.l0 k1 y110 L (n : Int) (wrap64 (x17_1 + 1))) = some r := by first | (rw [hy110]; with_reducible exact H) | (have H2_ := (Option.bind_some _ _).symm.trans H; rw [hy110]; with_reducible exact H2_) | (have H2_ := (Option.bind_some _ _).symm.trans H; with_reducible exact H2_) | with_reducible exact H | (rw [hy110]; exact H) | exact H
              have Ny110 := Aside0.mk hy110
              clear hy110
              have H' := Aside0.mk H
              clear H
              have p109 : 0 ≤ (x17_1 : Int) := of_decide_eq_true (by first | (with_reducible assumption) | assumption)
              have q109 : x17_1 < (n : Int) := of_decide_eq_true (by first | (with_reducible assumption) | assumption)
              obtain ⟨ad109, e109, hx109_0⟩ := Kd.at_int HR104.out x17_1 p109 (by rw [NN.out]; exact q109)
              cases e109
              replace hx109_0 := (HB.out.cell (World.block_lt_of_cell? w _ hx109_0)).trans hx109_0
              replace p109 := eq_true p109
              replace q109 := eq_true q109
              go_wp2_with (first | ((with_reducible refine gate_builtin (b := .append) (xs := #[.tmp 21, .tmp 24]) rfl ?_); at_builtin; refine OwnB.append (w0 := w) w.heap.size rfl (.tmp 21) (.tmp 24) 85 5 rfl Try.underlying85 info5 u3 x3_1 ((rd L x17_1) % 256) rfl rfl ?aO ?aB ?aS ?aL ?_; (case aB => exact by_); (case aO => exact (by (with_reducible repeat (first | apply OwnB.alloc | apply OwnB.drewN)); exact HO_3.out)); (case aS => exact (below_size by_)); (case aL => have := LMc13.out; omega); intro v111 w14 ho hb hg; rw [← Ny110.out] at ho; have n0_ := Aside0.mk (hb); have n1_ := Aside0.mk (ho); clear HB; clear HO_3; have HB := n0_; have HO112 := n1_; clear n0_ n1_; clear ho hb hg))
              go_roundg k1
              case measure => have := HK1.out; omega
              case rel => exact ⟨(y110), (wrap64 (x17_1 + 1)), (by first | rfl | (simp; done) | (simp [*]; done)), H', ⟨by have := HK1.out; omega⟩, ⟨by (with_reducible repeat (first | apply OwnB.alloc | apply OwnB.drewN)); exact HO112.out⟩, ⟨by repeat (first | (with_reducible first | exact HB.out | apply below_alloc | apply pw_below_drewN | apply below_drew1) | exact HB.out)⟩⟩
            · rw [if_neg c13] at H
              exact absurd H (by simp)
          · rw [if_neg c12] at H
            exact absurd H (by simp)
        · rw [if_neg c11] at H
          exact absurd H (by simp)
      · rw [if_neg c10] at H
        have c10b0 : decide (x17_1 < (n : Int)) = false := decide_eq_false c10
        clear c10
        obtain rfl := Option.some.inj H
        have hcv15 := OwnB.string (P := Try.prog) Try.underlying85 Try.underlying5 Try.underlying9 HO_3.out
        go_wp2
        go_ret
        exact ⟨by first | rfl | (simp [errW_none, errW_some] <;> rfl) | (simp [*, errW_none, errW_some] <;> rfl), by repeat (first | (with_reducible first | exact HB.out | apply below_alloc | apply pw_below_drewN | apply below_drew1) | exact HB.out)⟩

/-! ### graft_Encode: function 17 -/
def graft_Encode.f (k : Nat) (a0_0 : Int) (a0_1 : Int) (l0_2 : List (S59)) (a1_0 : Int) (a1_1 : Int) (a1_2 : Int) (a1_3 : Int) (a1_4 : Int) (a1_5 : Int) (a1_6 : Int) (a1_7 : Int) : Option (ByteArray × Int) := (graft_Check.f k a0_0 a0_1 l0_2 a1_0 a1_1 a1_2 a1_3 a1_4 a1_5 a1_6 a1_7).bind fun t123 => (if t123 = 0 then ((bytes_Two.f a0_0).bind fun t124 => (if 2 + t124.size ≤ 9223372036854775807 then ((bytes_Two.f a0_1).bind fun t125 => (if ((⟨#[71, 82]⟩ : ByteArray) ++ t124).size + t125.size ≤ 9223372036854775807 then ((graft_Flat.f k a0_0 a0_1 l0_2 a1_0 a1_1 a1_2 a1_3 a1_4 a1_5 a1_6 a1_7).bind fun t126 => ((bytes_Weights.f k t126).bind fun t129 => (if (((⟨#[71, 82]⟩ : ByteArray) ++ t124) ++ t125).size + t129.size ≤ 9223372036854775807 then ((bytes_Seal.f k ((((⟨#[71, 82]⟩ : ByteArray) ++ t124) ++ t125) ++ t129)).bind fun t130 => (some (t130, 0))) else (none)))) else (none))) else (none))) else (some ((⟨#[]⟩ : ByteArray), t123)))
theorem graft_Encode.mono : ∀ a0 a1 a2 a3 a4 a5 a6 a7 a8 a9 a10 k, LeO (graft_Encode.f k a0 a1 a2 a3 a4 a5 a6 a7 a8 a9 a10) (graft_Encode.f (k + 1) a0 a1 a2 a3 a4 a5 a6 a7 a8 a9 a10) := by
  intro a0 a1 a2 a3 a4 a5 a6 a7 a8 a9 a10 k
  unfold graft_Encode.f
  repeat' first
      | (with_reducible exact bytes_Seal.mono _ _)
      | (with_reducible exact bytes_Weights.mono _ _)
      | (with_reducible exact graft_Check.mono _ _ _ _ _ _ _ _ _ _ _ _)
      | (with_reducible exact graft_Flat.mono _ _ _ _ _ _ _ _ _ _ _ _)
      | (with_reducible exact LeO.refl _)
      | (with_reducible exact LeO.none _)
      | (with_reducible refine LeO.ite ?_ ?_)
      | (with_reducible refine LeO.bind ?_ (fun _ => ?_))
      | exact bytes_Seal.mono _ _
      | exact bytes_Weights.mono _ _
      | exact graft_Check.mono _ _ _ _ _ _ _ _ _ _ _ _
      | exact graft_Flat.mono _ _ _ _ _ _ _ _ _ _ _ _
      | exact LeO.none _
      | refine LeO.ite ?_ ?_
      | refine LeO.bind ?_ (fun _ => ?_)
def graft_Encode.T4 : Bool × List (List Nat × List Nat) := (true, [([], []), ([0], [0]), ([1], [1]), ([2], [2]), ([], []), ([4], [4]), ([5, 2], [5]), ([3, 6], [3, 6]), ([], []), ([], []), ([8, 9, 6], [8, 9]), ([10, 10], [10]), ([7, 11], [7, 11]), ([12, 11], [12]), ([13, 13, 0, 1, 2, 3, 4, 5, 6, 7, 8, 9, 10, 11, 12, 13], [13]), ([14, 0, 1, 2, 3, 4, 5, 6, 7, 8, 9, 10, 11, 12, 13, 14], [])])
def graft_Encode.B4 : List Nat := [0, 1, 3, 7, 0, 16, 55, 127, 0, 0, 887, 1911, 4095, 8191, 16383, 32767]
theorem graft_Encode.tab4 : rtab .any (opsOf Try.f17 4) = graft_Encode.T4 := by kernel_rfl
theorem graft_Encode.bits4 : waitsOk graft_Encode.T4.2 graft_Encode.B4 = true := by kernel_rfl
set_option maxHeartbeats 8000000 in
set_option maxRecDepth 100000 in
theorem graft_Encode.calls (k : Nat) (a0_0 : Int) (a0_1 : Int) (A0_2 : Option Addr) (c0_2 : Nat) (l0_2 : List (S59)) (a1_0 : Int) (a1_1 : Int) (a1_2 : Int) (a1_3 : Int) (a1_4 : Int) (a1_5 : Int) (a1_6 : Int) (a1_7 : Int) (r1 : ByteArray) (r2 : Int) (w : World) (hr0_2 : Kd.C k59 w A0_2 l0_2.length l0_2) (hc0_2 : l0_2.length ≤ c0_2) (h : graft_Encode.f k a0_0 a0_1 l0_2 a1_0 a1_1 a1_2 a1_3 a1_4 a1_5 a1_6 a1_7 = some (r1, r2)) :
    Calls Try.prog 17 #[.agg #[.int .i64 a0_0, .int .i64 a0_1, .slice A0_2 l0_2.length c0_2], .agg #[.int .i64 a1_0, .int .i64 a1_1, .int .i64 a1_2, .int .i64 a1_3, .int .i64 a1_4, .int .i64 a1_5, .int .i64 a1_6, .int .i64 a1_7]] w fun e w' => e = .returned (.tuple #[.string r1, .int .i64 r2]) ∧ Below w.heap.size w w' := by
  have hu27 := Try.underlying27
  have hu23 := Try.underlying23
  have HR0_2 := Aside0.mk hr0_2
  have HC0_2 := Aside0.mk hc0_2
  clear hr0_2 hc0_2
  have HB := Aside0.mk (Below.refl w.heap.size w)
  have H : ((graft_Check.f k a0_0 a0_1 l0_2 a1_0 a1_1 a1_2 a1_3 a1_4 a1_5 a1_6 a1_7).bind fun t123 => (if t123 = 0 then ((bytes_Two.f a0_0).bind fun t124 => (if 2 + t124.size ≤ 9223372036854775807 then ((bytes_Two.f a0_1).bind fun t125 => (if ((⟨#[71, 82]⟩ : ByteArray) ++ t124).size + t125.size ≤ 9223372036854775807 then ((graft_Flat.f k a0_0 a0_1 l0_2 a1_0 a1_1 a1_2 a1_3 a1_4 a1_5 a1_6 a1_7).bind fun t126 => ((bytes_Weights.f k t126).bind fun t129 => (if (((⟨#[71, 82]⟩ : ByteArray) ++ t124) ++ t125).size + t129.size ≤ 9223372036854775807 then ((bytes_Seal.f k ((((⟨#[71, 82]⟩ : ByteArray) ++ t124) ++ t125) ++ t129)).bind fun t130 => (some (t130, 0))) else (none)))) else (none))) else (none))) else (some ((⟨#[]⟩ : ByteArray), t123)))) = some (r1, r2) := h
  clear h
  replace H := Option.bind_eq_some_iff.mp H
  obtain ⟨t123, A30, H⟩ := H
  replace H : (if t123 = 0 then ((bytes_Two.f a0_0).bind fun t124 => (if 2 + t124.size ≤ 9223372036854775807 then ((bytes_Two.f a0_1).bind fun t125 => (if ((⟨#[71, 82]⟩ : ByteArray) ++ t124).size + t125.size ≤ 9223372036854775807 then ((graft_Flat.f k a0_0 a0_1 l0_2 a1_0 a1_1 a1_2 a1_3 a1_4 a1_5 a1_6 a1_7).bind fun t126 => ((bytes_Weights.f k t126).bind fun t129 => (if (((⟨#[71, 82]⟩ : ByteArray) ++ t124) ++ t125).size + t129.size ≤ 9223372036854775807 then ((bytes_Seal.f k ((((⟨#[71, 82]⟩ : ByteArray) ++ t124) ++ t125) ++ t129)).bind fun t130 => (some (t130, 0))) else (none)))) else (none))) else (none))) else (some ((⟨#[]⟩ : ByteArray), t123))) = some (r1, r2) := H
  have A3 := Aside0.mk A30
  clear A30
  by_cases c4 : t123 = 0
  · rw [if_pos c4] at H
    have c4b0 : (t123 == 0) = true := beq_iff_eq.mpr c4
    have c4b1 : (t123 != 0) = false := bne_eq_false_iff_eq.mpr c4
    clear c4
    replace H := Option.bind_eq_some_iff.mp H
    obtain ⟨t124, A50, H⟩ := H
    replace H : (if 2 + t124.size ≤ 9223372036854775807 then ((bytes_Two.f a0_1).bind fun t125 => (if ((⟨#[71, 82]⟩ : ByteArray) ++ t124).size + t125.size ≤ 9223372036854775807 then ((graft_Flat.f k a0_0 a0_1 l0_2 a1_0 a1_1 a1_2 a1_3 a1_4 a1_5 a1_6 a1_7).bind fun t126 => ((bytes_Weights.f k t126).bind fun t129 => (if (((⟨#[71, 82]⟩ : ByteArray) ++ t124) ++ t125).size + t129.size ≤ 9223372036854775807 then ((bytes_Seal.f k ((((⟨#[71, 82]⟩ : ByteArray) ++ t124) ++ t125) ++ t129)).bind fun t130 => (some (t130, 0))) else (none)))) else (none))) else (none)) = some (r1, r2) := H
    have A5 := Aside0.mk A50
    clear A50
    by_cases c6 : 2 + t124.size ≤ 9223372036854775807
    · rw [if_pos c6] at H
      have c6b0 := eq_true c6
      have c6b1 : decide (2 + t124.size ≤ 9223372036854775807) = true := decide_eq_true c6
      try have c6b2 : (9223372036854775807 < 2 + t124.size) = False := eq_false (Nat.not_lt.2 c6)
      replace H := Option.bind_eq_some_iff.mp H
      obtain ⟨t125, A70, H⟩ := H
      replace H : (if ((⟨#[71, 82]⟩ : ByteArray) ++ t124).size + t125.size ≤ 9223372036854775807 then ((graft_Flat.f k a0_0 a0_1 l0_2 a1_0 a1_1 a1_2 a1_3 a1_4 a1_5 a1_6 a1_7).bind fun t126 => ((bytes_Weights.f k t126).bind fun t129 => (if (((⟨#[71, 82]⟩ : ByteArray) ++ t124) ++ t125).size + t129.size ≤ 9223372036854775807 then ((bytes_Seal.f k ((((⟨#[71, 82]⟩ : ByteArray) ++ t124) ++ t125) ++ t129)).bind fun t130 => (some (t130, 0))) else (none)))) else (none)) = some (r1, r2) := H
      have A7 := Aside0.mk A70
      clear A70
      by_cases c8 : ((⟨#[71, 82]⟩ : ByteArray) ++ t124).size + t125.size ≤ 9223372036854775807
      · rw [if_pos c8] at H
        have c8b0 := eq_true c8
        have c8b1 : decide (((⟨#[71, 82]⟩ : ByteArray) ++ t124).size + t125.size ≤ 9223372036854775807) = true := decide_eq_true c8
        try have c8b2 : (9223372036854775807 < ((⟨#[71, 82]⟩ : ByteArray) ++ t124).size + t125.size) = False := eq_false (Nat.not_lt.2 c8)
        try have c8b3 : (2 + t124.size + t125.size ≤ 9223372036854775807) = True := eq_true (by have h_ := c8; simp only [ByteArray.size_append] at h_; exact h_)
        try have c8b4 : decide (2 + t124.size + t125.size ≤ 9223372036854775807) = true := decide_eq_true (by have h_ := c8; simp only [ByteArray.size_append] at h_; exact h_)
        try have c8b5 : (9223372036854775807 < 2 + t124.size + t125.size) = False := eq_false (Nat.not_lt.2 (by have h_ := c8; simp only [ByteArray.size_append] at h_; exact h_))
        replace H := Option.bind_eq_some_iff.mp H
        obtain ⟨t126, A90, H⟩ := H
        replace H : ((bytes_Weights.f k t126).bind fun t129 => (if (((⟨#[71, 82]⟩ : ByteArray) ++ t124) ++ t125).size + t129.size ≤ 9223372036854775807 then ((bytes_Seal.f k ((((⟨#[71, 82]⟩ : ByteArray) ++ t124) ++ t125) ++ t129)).bind fun t130 => (some (t130, 0))) else (none))) = some (r1, r2) := H
        have A9 := Aside0.mk A90
        clear A90
        replace H := Option.bind_eq_some_iff.mp H
        obtain ⟨t129, A100, H⟩ := H
        replace H : (if (((⟨#[71, 82]⟩ : ByteArray) ++ t124) ++ t125).size + t129.size ≤ 9223372036854775807 then ((bytes_Seal.f k ((((⟨#[71, 82]⟩ : ByteArray) ++ t124) ++ t125) ++ t129)).bind fun t130 => (some (t130, 0))) else (none)) = some (r1, r2) := H
        have A10 := Aside0.mk A100
        clear A100
        by_cases c11 : (((⟨#[71, 82]⟩ : ByteArray) ++ t124) ++ t125).size + t129.size ≤ 9223372036854775807
        · rw [if_pos c11] at H
          have c11b0 := eq_true c11
          have c11b1 : decide ((((⟨#[71, 82]⟩ : ByteArray) ++ t124) ++ t125).size + t129.size ≤ 9223372036854775807) = true := decide_eq_true c11
          try have c11b2 : (9223372036854775807 < (((⟨#[71, 82]⟩ : ByteArray) ++ t124) ++ t125).size + t129.size) = False := eq_false (Nat.not_lt.2 c11)
          try have c11b3 : (2 + t124.size + t125.size + t129.size ≤ 9223372036854775807) = True := eq_true (by have h_ := c11; simp only [ByteArray.size_append] at h_; exact h_)
          try have c11b4 : decide (2 + t124.size + t125.size + t129.size ≤ 9223372036854775807) = true := decide_eq_true (by have h_ := c11; simp only [ByteArray.size_append] at h_; exact h_)
          try have c11b5 : (9223372036854775807 < 2 + t124.size + t125.size + t129.size) = False := eq_false (Nat.not_lt.2 (by have h_ := c11; simp only [ByteArray.size_append] at h_; exact h_))
          replace H := Option.bind_eq_some_iff.mp H
          obtain ⟨t130, A120, H⟩ := H
          replace H : (some (t130, 0)) = some (r1, r2) := H
          have A12 := Aside0.mk A120
          clear A120
          simp only [Option.some.injEq, Prod.mk.injEq] at H
          obtain ⟨rfl, rfl⟩ := H
          go_enter Try.func17, Try.ntmps17
          try go_wp2_with (first | ((with_reducible refine gate_dst (N := 2) rfl ?_); refine box_event ?hg (N := 2) ?hd (cs := #[.int .i64 a0_0, .int .i64 a0_1, .slice A0_2 l0_2.length c0_2]) (t := 27) ?hr ?_; (case hd => rfl); (case hg => rfl); (case hr => first | (go_simp; done) | (go_simp; rfl)); intro gb121 hg w13 hbox hb; have n0_ := Aside0.mk (below_step by_ hb); have n1_ := Aside0.mk (hbox); have n2_ := Aside0.mk ((by rw [hg]; exact (below_size by_) : w.heap.size ≤ gb121)); have n3_ := Aside0.mk ((by rw [hg]; exact (below_size by_) : w.heap.size ≤ gb121)); clear HB; have HB := n0_; have BK121 := n1_; have GW121 := n2_; have GE121 := n3_; clear n0_ n1_ n2_ n3_; clear hb hbox hg) | ((with_reducible refine gate_dst (N := 3) rfl ?_); refine box_event ?hg (N := 3) ?hd (cs := #[.int .i64 a1_0, .int .i64 a1_1, .int .i64 a1_2, .int .i64 a1_3, .int .i64 a1_4, .int .i64 a1_5, .int .i64 a1_6, .int .i64 a1_7]) (t := 23) ?hr ?_; (case hd => rfl); (case hg => rfl); (case hr => first | (go_simp; done) | (go_simp; rfl)); intro gb122 hg w14 hbox hb; have n0_ := Aside0.mk (blk_below (bkl_ BK121.out) hb); have n1_ := Aside0.mk (below_step by_ hb); have n2_ := Aside0.mk (hbox); have n3_ := Aside0.mk ((by rw [hg]; exact (below_size by_) : w.heap.size ≤ gb122)); have n4_ := Aside0.mk ((by rw [hg]; exact (below_size by_) : w.heap.size ≤ gb122)); have n5_ := Aside0.mk ((by rw [hg]; exact Nat.ne_of_lt (blk_lt (bkl_ BK121.out)) : gb121 ≠ gb122)); have n6_ := Aside0.mk ((by rw [hg]; exact Nat.ne_of_gt (blk_lt (bkl_ BK121.out)) : gb122 ≠ gb121)); clear BK121; clear HB; have BK121 := n0_; have HB := n1_; have BK122 := n2_; have GW122 := n3_; have GE122 := n4_; have NB121_122 := n5_; have NB122_121 := n6_; clear n0_ n1_ n2_ n3_ n4_ n5_ n6_; clear hb hbox hg; have hnb15 := NB121_122.out; have hnc15 := NB122_121.out; have hcz16_0 : w14.cell? ⟨gb121, 0, none⟩ = some (.int .i64 a0_0) := (blk_cell BK121.out 0).trans rfl; have hcz16_1 : w14.cell? ⟨gb121, 1, none⟩ = some (.int .i64 a0_1) := (blk_cell BK121.out 1).trans rfl; have hcz16_2 : w14.cell? ⟨gb121, 2, none⟩ = some (.slice A0_2 l0_2.length c0_2) := (blk_cell BK121.out 2).trans rfl; have hfz16_0 := blk_frozen BK121.out 0; have hfz16_1 := blk_frozen BK121.out 1; have hfz16_2 := blk_frozen BK121.out 2; have hcz17_0 : w14.cell? ⟨gb122, 0, none⟩ = some (.int .i64 a1_0) := (blk_cell BK122.out 0).trans rfl; have hcz17_1 : w14.cell? ⟨gb122, 1, none⟩ = some (.int .i64 a1_1) := (blk_cell BK122.out 1).trans rfl; have hcz17_2 : w14.cell? ⟨gb122, 2, none⟩ = some (.int .i64 a1_2) := (blk_cell BK122.out 2).trans rfl; have hcz17_3 : w14.cell? ⟨gb122, 3, none⟩ = some (.int .i64 a1_3) := (blk_cell BK122.out 3).trans rfl; have hcz17_4 : w14.cell? ⟨gb122, 4, none⟩ = some (.int .i64 a1_4) := (blk_cell BK122.out 4).trans rfl; have hcz17_5 : w14.cell? ⟨gb122, 5, none⟩ = some (.int .i64 a1_5) := (blk_cell BK122.out 5).trans rfl; have hcz17_6 : w14.cell? ⟨gb122, 6, none⟩ = some (.int .i64 a1_6) := (blk_cell BK122.out 6).trans rfl; have hcz17_7 : w14.cell? ⟨gb122, 7, none⟩ = some (.int .i64 a1_7) := (blk_cell BK122.out 7).trans rfl; have hfz17_0 := blk_frozen BK122.out 0; have hfz17_1 := blk_frozen BK122.out 1; have hfz17_2 := blk_frozen BK122.out 2; have hfz17_3 := blk_frozen BK122.out 3; have hfz17_4 := blk_frozen BK122.out 4; have hfz17_5 := blk_frozen BK122.out 5; have hfz17_6 := blk_frozen BK122.out 6; have hfz17_7 := blk_frozen BK122.out 7) | ((with_reducible refine gate_callee (f := 19) rfl ?_); refine goesL_ (some 9) rfl rfl Try.func19 (by kernel_rfl) rfl #[.agg #[.int .i64 a0_0, .int .i64 a0_1, .slice A0_2 l0_2.length c0_2], .agg #[.int .i64 a1_0, .int .i64 a1_1, .int .i64 a1_2, .int .i64 a1_3, .int .i64 a1_4, .int .i64 a1_5, .int .i64 a1_6, .int .i64 a1_7]] rfl ar_ ?_; (with_reducible refine (graft_Check.calls k a0_0 a0_1 _ _ l0_2 a1_0 a1_1 a1_2 a1_3 a1_4 a1_5 a1_6 a1_7 t123 _ ?side1 ?side2 A3.out).mono ?_); (case side1 => repeat (first | exact (Kd.C_below HR0_2.out HB.out) | (with_reducible refine Kd.C_alloc ?_ _) | (with_reducible refine Kd.C_drewN ?_ _) | (with_reducible refine Kd.C_drew ?_))); (case side2 => exact HC0_2.out); rintro e w18 ⟨rfl, hb⟩; refine ⟨_, rfl, ?_⟩; have n0_ := Aside0.mk (blk_below (bkl_ BK121.out) hb); have n1_ := Aside0.mk (blk_below (bkl_ BK122.out) hb); have n2_ := Aside0.mk (below_step by_ hb); clear BK121; clear BK122; clear HB; have BK121 := n0_; have BK122 := n1_; have HB := n2_; clear n0_ n1_ n2_; (try clear hb); (try clear hb2); (try clear hk); (try clear hi)))
          have n0_ := Aside0.mk (blk_drew BK121.out)
          have n1_ := Aside0.mk (blk_drew BK122.out)
          have n2_ := Aside0.mk (below_drew1 HB.out)
          clear BK121
          clear BK122
          clear HB
          have BK121 := n0_
          have BK122 := n1_
          have HB := n2_
          clear n0_ n1_ n2_
          refine start_ (n := 16) (S := fun w' => w'.cell? ⟨gb121, 0, none⟩ = some (.int .i64 a0_0) ∧ w'.cell? ⟨gb121, 1, none⟩ = some (.int .i64 a0_1) ∧ w'.cell? ⟨gb121, 2, none⟩ = some (.slice A0_2 l0_2.length c0_2) ∧ w'.cell? ⟨gb122, 0, none⟩ = some (.int .i64 a1_0) ∧ w'.cell? ⟨gb122, 1, none⟩ = some (.int .i64 a1_1) ∧ w'.cell? ⟨gb122, 2, none⟩ = some (.int .i64 a1_2) ∧ w'.cell? ⟨gb122, 3, none⟩ = some (.int .i64 a1_3) ∧ w'.cell? ⟨gb122, 4, none⟩ = some (.int .i64 a1_4) ∧ w'.cell? ⟨gb122, 5, none⟩ = some (.int .i64 a1_5) ∧ w'.cell? ⟨gb122, 6, none⟩ = some (.int .i64 a1_6) ∧ w'.cell? ⟨gb122, 7, none⟩ = some (.int .i64 a1_7)) (ds := []) #[false, false, false, false, false, false, false, false, false, false, false, false, false, false, false, false] (by kernel_rfl) rfl rfl ⟨(blk_cell BK121.out 0).trans rfl, (blk_cell BK121.out 1).trans rfl, (blk_cell BK121.out 2).trans rfl, (blk_cell BK122.out 0).trans rfl, (blk_cell BK122.out 1).trans rfl, (blk_cell BK122.out 2).trans rfl, (blk_cell BK122.out 3).trans rfl, (blk_cell BK122.out 4).trans rfl, (blk_cell BK122.out 5).trans rfl, (blk_cell BK122.out 6).trans rfl, (blk_cell BK122.out 7).trans rfl⟩ (fun hHeld => ?_); refine with_tabW graft_Encode.tab4 graft_Encode.bits4 (fun HT_ HW_ => ?_)
          generalize w18.drew = w19 at BK121 BK122 HB hHeld ⊢
          refine pure_ (i := 0) (N := some 13) (v := ?_) (a' := ?_) #[true, false, false, false, false, false, false, false, false, false, false, false, false, false, false, false] rfl rfl (any_of HT_.out (by kernel_rfl)) (fun _ _ _ h => h) (Or.inl ⟨by rfl, ?_⟩) ?_ ?_
          rotate_left
          · intro w'
            go_simp
            with_reducible rfl
          rotate_left
          · simp only [Act.put, List.setIfInBounds_toArray, List.set_cons_zero, List.set_cons_succ, i64_w, i32_w]
            rfl
          refine pure_ (i := 4) (N := some 17) (v := ?_) (a' := ?_) #[true, false, false, false, true, false, false, false, false, false, false, false, false, false, false, false] rfl rfl (any_of HT_.out (by kernel_rfl)) (fun _ _ _ h => h) (Or.inl ⟨by rfl, ?_⟩) ?_ ?_
          rotate_left
          · intro w'
            go_simp
            with_reducible rfl
          rotate_left
          · simp only [Act.put, List.setIfInBounds_toArray, List.set_cons_zero, List.set_cons_succ, i64_w, i32_w]
            rfl
          refine take_ (i := 1) (N := some 14) (v := ?_) (a' := ?_) #[true, true, false, false, true, false, false, false, false, false, false, false, false, false, false, false] rfl rfl (take_ofW HT_.out HW_.out (by kernel_rfl)) (fun _ _ _ h => h) (Or.inl ⟨by rfl, ?_⟩) hHeld ?_ ?_
          rotate_left
          · rintro w' ⟨s0, s1, s2, s3, s4, s5, s6, s7, s8, s9, s10⟩
            go_simp
            with_reducible rfl
          rotate_left
          · simp only [Act.put, List.setIfInBounds_toArray, List.set_cons_zero, List.set_cons_succ, i64_w, i32_w]
            rfl
          refine take_ (i := 5) (N := some 18) (v := ?_) (a' := ?_) #[true, true, false, false, true, true, false, false, false, false, false, false, false, false, false, false] rfl rfl (take_ofW HT_.out HW_.out (by kernel_rfl)) (fun _ _ _ h => h) (Or.inl ⟨by rfl, ?_⟩) hHeld ?_ ?_
          rotate_left
          · rintro w' ⟨s0, s1, s2, s3, s4, s5, s6, s7, s8, s9, s10⟩
            go_simp
            with_reducible rfl
          rotate_left
          · simp only [Act.put, List.setIfInBounds_toArray, List.set_cons_zero, List.set_cons_succ, i64_w, i32_w]
            rfl
          refine take_ (i := 8) (N := some 21) (v := ?_) (a' := ?_) #[true, true, false, false, true, true, false, false, true, false, false, false, false, false, false, false] rfl rfl (take_ofW HT_.out HW_.out (by kernel_rfl)) (fun _ _ _ h => h) (Or.inl ⟨by rfl, ?_⟩) hHeld ?_ ?_
          rotate_left
          · rintro w' ⟨s0, s1, s2, s3, s4, s5, s6, s7, s8, s9, s10⟩
            go_simp
            with_reducible rfl
          rotate_left
          · simp only [Act.put, List.setIfInBounds_toArray, List.set_cons_zero, List.set_cons_succ, i64_w, i32_w]
            rfl
          refine take_ (i := 9) (N := some 22) (v := ?_) (a' := ?_) #[true, true, false, false, true, true, false, false, true, true, false, false, false, false, false, false] rfl rfl (take_ofW HT_.out HW_.out (by kernel_rfl)) (fun _ _ _ h => h) (Or.inl ⟨by rfl, ?_⟩) hHeld ?_ ?_
          rotate_left
          · rintro w' ⟨s0, s1, s2, s3, s4, s5, s6, s7, s8, s9, s10⟩
            go_simp
            with_reducible rfl
          rotate_left
          · simp only [Act.put, List.setIfInBounds_toArray, List.set_cons_zero, List.set_cons_succ, i64_w, i32_w]
            rfl
          refine one_ (i := 2) (N := some 15) #[true, true, true, false, true, true, false, false, true, true, false, false, false, false, false, false] rfl rfl (one_of HT_.out (by kernel_rfl)) (by decide) (fun K hK => ?_)
          refine goes_ Try.func37 (by kernel_rfl) rfl #[.int .i64 a0_0] (by rfl) rfl rfl ar_ ?_
          with_reducible refine (bytes_Two.calls a0_0 t124 _ A5.out).mono ?_
          rintro e w20 ⟨rfl, hb⟩
          refine ⟨_, rfl, ?_⟩
          have n0_ := Aside0.mk (blk_below (bkl_ BK121.out) hb)
          have n1_ := Aside0.mk (blk_below (bkl_ BK122.out) hb)
          have n2_ := Aside0.mk (below_step by_ hb)
          clear BK121
          clear BK122
          clear HB
          have BK121 := n0_
          have BK122 := n1_
          have HB := n2_
          clear n0_ n1_ n2_
          (try clear hb)
          (try clear hb2)
          (try clear hk)
          (try clear hi)
          refine hK.out _ _ ⟨(blk_cell BK121.out 0).trans rfl, (blk_cell BK121.out 1).trans rfl, (blk_cell BK121.out 2).trans rfl, (blk_cell BK122.out 0).trans rfl, (blk_cell BK122.out 1).trans rfl, (blk_cell BK122.out 2).trans rfl, (blk_cell BK122.out 3).trans rfl, (blk_cell BK122.out 4).trans rfl, (blk_cell BK122.out 5).trans rfl, (blk_cell BK122.out 6).trans rfl, (blk_cell BK122.out 7).trans rfl⟩ (fun hHeld => ?_)
          clear hK K
          refine norm_ (a' := ?_) ?_ ?_
          rotate_left
          · show Act.put _ (some 15) _ = _
            simp only [Act.put, List.setIfInBounds_toArray, List.set_cons_zero, List.set_cons_succ, i64_w, i32_w]
            rfl
          refine pure_ (i := 3) (N := some 16) (v := ?_) (a' := ?_) #[true, true, true, true, true, true, false, false, true, true, false, false, false, false, false, false] rfl rfl (any_of HT_.out (by kernel_rfl)) (fun _ _ _ h => h) (Or.inl ⟨by rfl, ?_⟩) ?_ ?_
          rotate_left
          · intro w'
            go_simp
            with_reducible rfl
          rotate_left
          · simp only [Act.put, List.setIfInBounds_toArray, List.set_cons_zero, List.set_cons_succ, i64_w, i32_w]
            rfl
          refine one_ (i := 6) (N := some 19) #[true, true, true, true, true, true, true, false, true, true, false, false, false, false, false, false] rfl rfl (one_of HT_.out (by kernel_rfl)) (by decide) (fun K hK => ?_)
          refine goes_ Try.func37 (by kernel_rfl) rfl #[.int .i64 a0_1] (by rfl) rfl rfl ar_ ?_
          with_reducible refine (bytes_Two.calls a0_1 t125 _ A7.out).mono ?_
          rintro e w21 ⟨rfl, hb⟩
          refine ⟨_, rfl, ?_⟩
          have n0_ := Aside0.mk (blk_below (bkl_ BK121.out) hb)
          have n1_ := Aside0.mk (blk_below (bkl_ BK122.out) hb)
          have n2_ := Aside0.mk (below_step by_ hb)
          clear BK121
          clear BK122
          clear HB
          have BK121 := n0_
          have BK122 := n1_
          have HB := n2_
          clear n0_ n1_ n2_
          (try clear hb)
          (try clear hb2)
          (try clear hk)
          (try clear hi)
          refine hK.out _ _ ⟨(blk_cell BK121.out 0).trans rfl, (blk_cell BK121.out 1).trans rfl, (blk_cell BK121.out 2).trans rfl, (blk_cell BK122.out 0).trans rfl, (blk_cell BK122.out 1).trans rfl, (blk_cell BK122.out 2).trans rfl, (blk_cell BK122.out 3).trans rfl, (blk_cell BK122.out 4).trans rfl, (blk_cell BK122.out 5).trans rfl, (blk_cell BK122.out 6).trans rfl, (blk_cell BK122.out 7).trans rfl⟩ (fun hHeld => ?_)
          clear hK K
          refine norm_ (a' := ?_) ?_ ?_
          rotate_left
          · show Act.put _ (some 19) _ = _
            simp only [Act.put, List.setIfInBounds_toArray, List.set_cons_zero, List.set_cons_succ, i64_w, i32_w]
            rfl
          refine pure_ (i := 7) (N := some 20) (v := ?_) (a' := ?_) #[true, true, true, true, true, true, true, true, true, true, false, false, false, false, false, false] rfl rfl (any_of HT_.out (by kernel_rfl)) (fun _ _ _ h => h) (Or.inl ⟨by rfl, ?_⟩) ?_ ?_
          rotate_left
          · intro w'
            go_simp
            with_reducible rfl
          rotate_left
          · simp only [Act.put, List.setIfInBounds_toArray, List.set_cons_zero, List.set_cons_succ, i64_w, i32_w]
            rfl
          refine one_ (i := 10) (N := some 23) #[true, true, true, true, true, true, true, true, true, true, true, false, false, false, false, false] rfl rfl (one_of HT_.out (by kernel_rfl)) (by decide) (fun K hK => ?_)
          refine goes_ Try.func22 (by kernel_rfl) rfl #[.agg #[.int .i64 a0_0, .int .i64 a0_1, .slice A0_2 l0_2.length c0_2], .agg #[.int .i64 a1_0, .int .i64 a1_1, .int .i64 a1_2, .int .i64 a1_3, .int .i64 a1_4, .int .i64 a1_5, .int .i64 a1_6, .int .i64 a1_7]] (by rfl) rfl rfl ar_ ?_
          with_reducible refine (graft_Flat.calls k a0_0 a0_1 _ _ l0_2 a1_0 a1_1 a1_2 a1_3 a1_4 a1_5 a1_6 a1_7 t126 _ ?side1 ?side2 A9.out).mono ?_
          (case side1 => repeat (first | exact (Kd.C_below HR0_2.out HB.out) | (with_reducible refine Kd.C_alloc ?_ _) | (with_reducible refine Kd.C_drewN ?_ _) | (with_reducible refine Kd.C_drew ?_)))
          (case side2 => exact HC0_2.out)
          rintro e w22 ⟨v127, rfl, ho0, hb⟩
          refine ⟨_, rfl, ?_⟩
          have n0_ := Aside0.mk (Kd.R_lower ho0 (below_size by_))
          have n1_ := Aside0.mk (blk_below (bkl_ BK121.out) hb)
          have n2_ := Aside0.mk (blk_below (bkl_ BK122.out) hb)
          have n3_ := Aside0.mk (below_step by_ hb)
          clear BK121
          clear BK122
          clear HB
          have HO128 := n0_
          have BK121 := n1_
          have BK122 := n2_
          have HB := n3_
          clear n0_ n1_ n2_ n3_
          (try clear hb)
          (try clear hb2)
          (try clear hk)
          (try clear hi)
          (try clear ho0)
          obtain ⟨Ao23, co23, eo23⟩ := Kd.R_slice HO128.out
          (first | subst eo23 | (injection eo23 with f1_ f2_ f3_; have f4_ := f1_.symm; have f5_ := f3_.symm; clear f1_ f2_ f3_; subst f4_; subst f5_))
          refine hK.out _ _ ⟨(blk_cell BK121.out 0).trans rfl, (blk_cell BK121.out 1).trans rfl, (blk_cell BK121.out 2).trans rfl, (blk_cell BK122.out 0).trans rfl, (blk_cell BK122.out 1).trans rfl, (blk_cell BK122.out 2).trans rfl, (blk_cell BK122.out 3).trans rfl, (blk_cell BK122.out 4).trans rfl, (blk_cell BK122.out 5).trans rfl, (blk_cell BK122.out 6).trans rfl, (blk_cell BK122.out 7).trans rfl⟩ (fun hHeld => ?_)
          clear hK K
          refine norm_ (a' := ?_) ?_ ?_
          rotate_left
          · show Act.put _ (some 23) _ = _
            simp only [Act.put, List.setIfInBounds_toArray, List.set_cons_zero, List.set_cons_succ, i64_w, i32_w]
            rfl
          refine one_ (i := 11) (N := some 24) #[true, true, true, true, true, true, true, true, true, true, true, true, false, false, false, false] rfl rfl (one_of HT_.out (by kernel_rfl)) (by decide) (fun K hK => ?_)
          refine goes_ Try.func38 (by kernel_rfl) rfl #[.slice Ao23 t126.length co23] (by rfl) rfl rfl ar_ ?_
          with_reducible refine (bytes_Weights.calls k _ _ t126 t129 _ ?side1 ?side2 A10.out).mono ?_
          (case side1 => repeat (first | exact (Kd.R_reads' HO128.out).2.2 | (with_reducible refine Kd.C_alloc ?_ _) | (with_reducible refine Kd.C_drewN ?_ _) | (with_reducible refine Kd.C_drew ?_)))
          (case side2 => exact (Kd.R_reads' HO128.out).2.1)
          rintro e w24 ⟨rfl, hb⟩
          refine ⟨_, rfl, ?_⟩
          have n0_ := Aside0.mk (Kd.R_below (by (with_reducible repeat (first | apply Kd.R_alloc | apply Kd.R_drewN | apply Kd.R_drew)); exact HO128.out) hb)
          have n1_ := Aside0.mk (blk_below (bkl_ BK121.out) hb)
          have n2_ := Aside0.mk (blk_below (bkl_ BK122.out) hb)
          have n3_ := Aside0.mk (below_step by_ hb)
          clear HO128
          clear BK121
          clear BK122
          clear HB
          have HO128 := n0_
          have BK121 := n1_
          have BK122 := n2_
          have HB := n3_
          clear n0_ n1_ n2_ n3_
          (try clear hb)
          (try clear hb2)
          (try clear hk)
          (try clear hi)
          refine hK.out _ _ ⟨(blk_cell BK121.out 0).trans rfl, (blk_cell BK121.out 1).trans rfl, (blk_cell BK121.out 2).trans rfl, (blk_cell BK122.out 0).trans rfl, (blk_cell BK122.out 1).trans rfl, (blk_cell BK122.out 2).trans rfl, (blk_cell BK122.out 3).trans rfl, (blk_cell BK122.out 4).trans rfl, (blk_cell BK122.out 5).trans rfl, (blk_cell BK122.out 6).trans rfl, (blk_cell BK122.out 7).trans rfl⟩ (fun hHeld => ?_)
          clear hK K
          refine norm_ (a' := ?_) ?_ ?_
          rotate_left
          · show Act.put _ (some 24) _ = _
            simp only [Act.put, List.setIfInBounds_toArray, List.set_cons_zero, List.set_cons_succ, i64_w, i32_w]
            rfl
          refine pure_ (i := 12) (N := some 25) (v := ?_) (a' := ?_) #[true, true, true, true, true, true, true, true, true, true, true, true, true, false, false, false] rfl rfl (any_of HT_.out (by kernel_rfl)) (fun _ _ _ h => h) (Or.inl ⟨by rfl, ?_⟩) ?_ ?_
          rotate_left
          · intro w'
            go_simp
            with_reducible rfl
          rotate_left
          · simp only [Act.put, List.setIfInBounds_toArray, List.set_cons_zero, List.set_cons_succ, i64_w, i32_w]
            rfl
          refine one_ (i := 13) (N := some 26) #[true, true, true, true, true, true, true, true, true, true, true, true, true, true, false, false] rfl rfl (one_of HT_.out (by kernel_rfl)) (by decide) (fun K hK => ?_)
          refine goes_ Try.func36 (by kernel_rfl) rfl #[.string ((((⟨#[71, 82]⟩ : ByteArray) ++ t124) ++ t125) ++ t129)] (by rfl) rfl rfl ar_ ?_
          with_reducible refine (bytes_Seal.calls k ((((⟨#[71, 82]⟩ : ByteArray) ++ t124) ++ t125) ++ t129) t130 _ A12.out).mono ?_
          rintro e w25 ⟨rfl, hb⟩
          refine ⟨_, rfl, ?_⟩
          have n0_ := Aside0.mk (Kd.R_below (by (with_reducible repeat (first | apply Kd.R_alloc | apply Kd.R_drewN | apply Kd.R_drew)); exact HO128.out) hb)
          have n1_ := Aside0.mk (blk_below (bkl_ BK121.out) hb)
          have n2_ := Aside0.mk (blk_below (bkl_ BK122.out) hb)
          have n3_ := Aside0.mk (below_step by_ hb)
          clear HO128
          clear BK121
          clear BK122
          clear HB
          have HO128 := n0_
          have BK121 := n1_
          have BK122 := n2_
          have HB := n3_
          clear n0_ n1_ n2_ n3_
          (try clear hb)
          (try clear hb2)
          (try clear hk)
          (try clear hi)
          refine hK.out _ _ ⟨(blk_cell BK121.out 0).trans rfl, (blk_cell BK121.out 1).trans rfl, (blk_cell BK121.out 2).trans rfl, (blk_cell BK122.out 0).trans rfl, (blk_cell BK122.out 1).trans rfl, (blk_cell BK122.out 2).trans rfl, (blk_cell BK122.out 3).trans rfl, (blk_cell BK122.out 4).trans rfl, (blk_cell BK122.out 5).trans rfl, (blk_cell BK122.out 6).trans rfl, (blk_cell BK122.out 7).trans rfl⟩ (fun hHeld => ?_)
          clear hK K
          refine norm_ (a' := ?_) ?_ ?_
          rotate_left
          · show Act.put _ (some 26) _ = _
            simp only [Act.put, List.setIfInBounds_toArray, List.set_cons_zero, List.set_cons_succ, i64_w, i32_w]
            rfl
          refine pure_ (i := 14) (N := some 4) (v := ?_) (a' := ?_) #[true, true, true, true, true, true, true, true, true, true, true, true, true, true, true, false] rfl rfl (any_of HT_.out (by kernel_rfl)) (fun _ _ _ h => h) (Or.inl ⟨by rfl, ?_⟩) ?_ ?_
          rotate_left
          · intro w'
            go_simp
            with_reducible rfl
          rotate_left
          · simp only [Act.put, List.setIfInBounds_toArray, List.set_cons_zero, List.set_cons_succ, i64_w, i32_w]
            rfl
          refine pure_ (i := 15) (N := some 5) (v := ?_) (a' := ?_) #[true, true, true, true, true, true, true, true, true, true, true, true, true, true, true, true] rfl rfl (any_of HT_.out (by kernel_rfl)) (fun _ _ _ h => h) (Or.inl ⟨by rfl, ?_⟩) ?_ ?_
          rotate_left
          · intro w'
            go_simp
            with_reducible rfl
          rotate_left
          · simp only [Act.put, List.setIfInBounds_toArray, List.set_cons_zero, List.set_cons_succ, i64_w, i32_w]
            rfl
          refine done_ (done_of HT_.out (by kernel_rfl)) ?_
          try go_wp2
          go_ret2
          exact ⟨by first | rfl | (simp [errW_none, errW_some] <;> rfl) | (simp [*, errW_none, errW_some] <;> rfl), by repeat (first | (with_reducible first | exact HB.out | apply below_alloc | apply pw_below_drewN | apply below_drew1 | refine below_set ?_ GE121.out | refine below_set ?_ GE122.out) | exact HB.out)⟩
        · rw [if_neg c11] at H
          exact absurd H (by simp)
      · rw [if_neg c8] at H
        exact absurd H (by simp)
    · rw [if_neg c6] at H
      exact absurd H (by simp)
  · rw [if_neg c4] at H
    have c4b0 : (t123 == 0) = false := beq_eq_false_iff_ne.mpr c4
    have c4b1 : (t123 != 0) = true := bne_iff_ne.mpr c4
    simp only [Option.some.injEq, Prod.mk.injEq] at H
    obtain ⟨rfl, rfl⟩ := H
    go_enter Try.func17, Try.ntmps17
    go_wp2_with (first | ((with_reducible refine gate_dst (N := 2) rfl ?_); refine box_event ?hg (N := 2) ?hd (cs := #[.int .i64 a0_0, .int .i64 a0_1, .slice A0_2 l0_2.length c0_2]) (t := 27) ?hr ?_; (case hd => rfl); (case hg => rfl); (case hr => first | (go_simp; done) | (go_simp; rfl)); intro gb121 hg w26 hbox hb; have n0_ := Aside0.mk (below_step by_ hb); have n1_ := Aside0.mk (hbox); have n2_ := Aside0.mk ((by rw [hg]; exact (below_size by_) : w.heap.size ≤ gb121)); have n3_ := Aside0.mk ((by rw [hg]; exact (below_size by_) : w.heap.size ≤ gb121)); clear HB; have HB := n0_; have BK121 := n1_; have GW121 := n2_; have GE121 := n3_; clear n0_ n1_ n2_ n3_; clear hb hbox hg) | ((with_reducible refine gate_dst (N := 3) rfl ?_); refine box_event ?hg (N := 3) ?hd (cs := #[.int .i64 a1_0, .int .i64 a1_1, .int .i64 a1_2, .int .i64 a1_3, .int .i64 a1_4, .int .i64 a1_5, .int .i64 a1_6, .int .i64 a1_7]) (t := 23) ?hr ?_; (case hd => rfl); (case hg => rfl); (case hr => first | (go_simp; done) | (go_simp; rfl)); intro gb122 hg w27 hbox hb; have n0_ := Aside0.mk (blk_below (bkl_ BK121.out) hb); have n1_ := Aside0.mk (below_step by_ hb); have n2_ := Aside0.mk (hbox); have n3_ := Aside0.mk ((by rw [hg]; exact (below_size by_) : w.heap.size ≤ gb122)); have n4_ := Aside0.mk ((by rw [hg]; exact (below_size by_) : w.heap.size ≤ gb122)); have n5_ := Aside0.mk ((by rw [hg]; exact Nat.ne_of_lt (blk_lt (bkl_ BK121.out)) : gb121 ≠ gb122)); have n6_ := Aside0.mk ((by rw [hg]; exact Nat.ne_of_gt (blk_lt (bkl_ BK121.out)) : gb122 ≠ gb121)); clear BK121; clear HB; have BK121 := n0_; have HB := n1_; have BK122 := n2_; have GW122 := n3_; have GE122 := n4_; have NB121_122 := n5_; have NB122_121 := n6_; clear n0_ n1_ n2_ n3_ n4_ n5_ n6_; clear hb hbox hg; have hnb28 := NB121_122.out; have hnc28 := NB122_121.out; have hcz29_0 : w27.cell? ⟨gb121, 0, none⟩ = some (.int .i64 a0_0) := (blk_cell BK121.out 0).trans rfl; have hcz29_1 : w27.cell? ⟨gb121, 1, none⟩ = some (.int .i64 a0_1) := (blk_cell BK121.out 1).trans rfl; have hcz29_2 : w27.cell? ⟨gb121, 2, none⟩ = some (.slice A0_2 l0_2.length c0_2) := (blk_cell BK121.out 2).trans rfl; have hfz29_0 := blk_frozen BK121.out 0; have hfz29_1 := blk_frozen BK121.out 1; have hfz29_2 := blk_frozen BK121.out 2; have hcz30_0 : w27.cell? ⟨gb122, 0, none⟩ = some (.int .i64 a1_0) := (blk_cell BK122.out 0).trans rfl; have hcz30_1 : w27.cell? ⟨gb122, 1, none⟩ = some (.int .i64 a1_1) := (blk_cell BK122.out 1).trans rfl; have hcz30_2 : w27.cell? ⟨gb122, 2, none⟩ = some (.int .i64 a1_2) := (blk_cell BK122.out 2).trans rfl; have hcz30_3 : w27.cell? ⟨gb122, 3, none⟩ = some (.int .i64 a1_3) := (blk_cell BK122.out 3).trans rfl; have hcz30_4 : w27.cell? ⟨gb122, 4, none⟩ = some (.int .i64 a1_4) := (blk_cell BK122.out 4).trans rfl; have hcz30_5 : w27.cell? ⟨gb122, 5, none⟩ = some (.int .i64 a1_5) := (blk_cell BK122.out 5).trans rfl; have hcz30_6 : w27.cell? ⟨gb122, 6, none⟩ = some (.int .i64 a1_6) := (blk_cell BK122.out 6).trans rfl; have hcz30_7 : w27.cell? ⟨gb122, 7, none⟩ = some (.int .i64 a1_7) := (blk_cell BK122.out 7).trans rfl; have hfz30_0 := blk_frozen BK122.out 0; have hfz30_1 := blk_frozen BK122.out 1; have hfz30_2 := blk_frozen BK122.out 2; have hfz30_3 := blk_frozen BK122.out 3; have hfz30_4 := blk_frozen BK122.out 4; have hfz30_5 := blk_frozen BK122.out 5; have hfz30_6 := blk_frozen BK122.out 6; have hfz30_7 := blk_frozen BK122.out 7) | ((with_reducible refine gate_callee (f := 19) rfl ?_); refine goesL_ (some 9) rfl rfl Try.func19 (by kernel_rfl) rfl #[.agg #[.int .i64 a0_0, .int .i64 a0_1, .slice A0_2 l0_2.length c0_2], .agg #[.int .i64 a1_0, .int .i64 a1_1, .int .i64 a1_2, .int .i64 a1_3, .int .i64 a1_4, .int .i64 a1_5, .int .i64 a1_6, .int .i64 a1_7]] rfl ar_ ?_; (with_reducible refine (graft_Check.calls k a0_0 a0_1 _ _ l0_2 a1_0 a1_1 a1_2 a1_3 a1_4 a1_5 a1_6 a1_7 t123 _ ?side1 ?side2 A3.out).mono ?_); (case side1 => repeat (first | exact (Kd.C_below HR0_2.out HB.out) | (with_reducible refine Kd.C_alloc ?_ _) | (with_reducible refine Kd.C_drewN ?_ _) | (with_reducible refine Kd.C_drew ?_))); (case side2 => exact HC0_2.out); rintro e w31 ⟨rfl, hb⟩; refine ⟨_, rfl, ?_⟩; have n0_ := Aside0.mk (blk_below (bkl_ BK121.out) hb); have n1_ := Aside0.mk (blk_below (bkl_ BK122.out) hb); have n2_ := Aside0.mk (below_step by_ hb); clear BK121; clear BK122; clear HB; have BK121 := n0_; have BK122 := n1_; have HB := n2_; clear n0_ n1_ n2_; (try clear hb); (try clear hb2); (try clear hk); (try clear hi)))
    go_ret2
    exact ⟨by first | rfl | (simp [errW_none, errW_some] <;> rfl) | (simp [*, errW_none, errW_some] <;> rfl), by repeat (first | (with_reducible first | exact HB.out | apply below_alloc | apply pw_below_drewN | apply below_drew1 | refine below_set ?_ GE121.out | refine below_set ?_ GE122.out) | exact HB.out)⟩

end Go.Proofs.Ytekaiebfgcjddaa.PGraftBack
