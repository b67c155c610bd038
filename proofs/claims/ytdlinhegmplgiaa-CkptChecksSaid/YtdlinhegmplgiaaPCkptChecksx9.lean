/- A text of the session: functions of the program and their walks, laid by a program of its own (wip/tools/mkprint.py) over the translation. No condition. -/
import Derived.Test.YtdlinhegmplgiaaPCkptChecksx0
import Derived.Test.YtdlinhegmplgiaaPCkptChecksx5
import Derived.Test.YtdlinhegmplgiaaPCkptChecksx8
namespace Go.Proofs.Ytdlinhegmplgiaa.PCkptChecks
open Go.RowKit Go.Proofs.YtdlinhegmplgiaaW.PrintWords Go.Proofs.YtdlinhegmplgiaaW.PrintLast Go.Proofs.YtdlinhegmplgiaaW.PrintMore
attribute [local go_sem] max2_int min2_int max_two min_two max_three min_three max_four min_four   -- for this text's walks alone
set_option linter.unusedVariables false
set_option linter.unusedSimpArgs false

/-! ### aviaryref09_Check: function 17 -/
def rfit (n : Int) (l : List Int) : Bool := decide ((l.length : Int) = n)
def rfitU (c0 c4 : Int) (g : S59) (j : Nat) : Bool := rfit (c4 * c0) (g.f7.getD j []) && rfit (c4 * c0) (g.f8.getD j [])
def rfitH (c0 c5 : Int) (g : S59) : Bool := rfit c0 g.f0 && (rfit (c0 * c0) g.f1 && (rfit (c0 * c0) g.f2 && (rfit (c0 * c0) g.f3 && (rfit (c0 * c0) g.f4 && (rfit c0 g.f5 && (rfit (c5 * c0) g.f6 && (decide ((g.f7.length : Int) = mx c5 1) && decide ((g.f8.length : Int) = mx c5 1))))))))
def rfitL (c0 c4 c5 : Int) (g : S59) : Bool := rfitH c0 c5 g && (List.range (mx c5 1).toNat).all (rfitU c0 c4 g)
def rfitM (c0 c2 c3 c4 c5 : Int) (e : List Int) (L : List S59) (nn o : List Int) : Bool := (decide ((L.length : Int) = c2) && (rfit (c3 * c0) e && (rfit c0 nn && rfit (c3 * c0) o))) && L.all (rfitL c0 c4 c5)
def aviaryref09_Check.f (k : Nat) (a0_0 : Int) (a0_1 : Int) (a0_2 : Int) (a0_3 : Int) (a0_4 : Int) (a0_5 : Int) (a0_6 : Int) (a0_7 : Int) (l0_8 : List Int) (l0_9 : List S59) (l0_10 : List Int) (l0_11 : List Int) : Option (Int) := (aviaryref09_Config.f k a0_0 a0_1 a0_2 a0_3 a0_4 a0_5 a0_6 a0_7).bind fun t => (if t = true then (if rngM a0_0 a0_2 a0_3 a0_4 a0_5 = true then (some (if rfitM a0_0 a0_2 a0_3 a0_4 a0_5 l0_8 l0_9 l0_10 l0_11 = true then 0 else 21)) else none) else (some 20))
theorem aviaryref09_Check.mono : ∀ a0 a1 a2 a3 a4 a5 a6 a7 a8 a9 a10 a11 k, LeO (aviaryref09_Check.f k a0 a1 a2 a3 a4 a5 a6 a7 a8 a9 a10 a11) (aviaryref09_Check.f (k + 1) a0 a1 a2 a3 a4 a5 a6 a7 a8 a9 a10 a11) := by
  intro a0 a1 a2 a3 a4 a5 a6 a7 a8 a9 a10 a11 k
  unfold aviaryref09_Check.f
  repeat' first
      | (with_reducible exact LeO.refl _)
      | (with_reducible exact LeO.none _)
      | (with_reducible refine LeO.ite ?_ ?_)
      | (with_reducible exact aviaryref09_Config.mono _ _ _ _ _ _ _ _ _)
      | (with_reducible refine LeO.bind ?_ (fun _ => ?_))
set_option maxHeartbeats 8000000 in
set_option maxRecDepth 100000 in
theorem aviaryref09_Check.calls (k : Nat) (a0_0 : Int) (a0_1 : Int) (a0_2 : Int) (a0_3 : Int) (a0_4 : Int) (a0_5 : Int) (a0_6 : Int) (a0_7 : Int) (A0_8 : Option Addr) (c0_8 : Nat) (l0_8 : List Int) (A0_9 : Option Addr) (c0_9 : Nat) (l0_9 : List S59) (A0_10 : Option Addr) (c0_10 : Nat) (l0_10 : List Int) (A0_11 : Option Addr) (c0_11 : Nat) (l0_11 : List Int) (r : Int) (w : World) (hr0_8 : Kd.C (Kd.int .i8) w A0_8 l0_8.length l0_8) (hc0_8 : l0_8.length ≤ c0_8) (hr0_9 : Kd.C k59 w A0_9 l0_9.length l0_9) (hc0_9 : l0_9.length ≤ c0_9) (hr0_10 : Kd.C (Kd.int .i8) w A0_10 l0_10.length l0_10) (hc0_10 : l0_10.length ≤ c0_10) (hr0_11 : Kd.C (Kd.int .i8) w A0_11 l0_11.length l0_11) (hc0_11 : l0_11.length ≤ c0_11) (h : aviaryref09_Check.f k a0_0 a0_1 a0_2 a0_3 a0_4 a0_5 a0_6 a0_7 l0_8 l0_9 l0_10 l0_11 = some r) :
    Calls Try.prog 17 #[.agg #[.int .i64 a0_0, .int .i64 a0_1, .int .i64 a0_2, .int .i64 a0_3, .int .i64 a0_4, .int .i64 a0_5, .int .i64 a0_6, .int .i64 a0_7, .slice A0_8 l0_8.length c0_8, .slice A0_9 l0_9.length c0_9, .slice A0_10 l0_10.length c0_10, .slice A0_11 l0_11.length c0_11]] w fun e w' => e = .returned (.int .i64 r) ∧ Below w.heap.size w w' := by
  have hu29 := Try.underlying29
  have hu23 := Try.underlying23
  have hu27 := Try.underlying27
  have hu59 := Try.underlying59
  have hu57 := Try.underlying57
  have HR := Aside0.mk hr0_9
  clear hr0_8 hc0_8 hr0_9 hc0_9 hr0_10 hc0_10 hr0_11 hc0_11
  have HI0 : Aside0 (CkTwo w w.heap.size (w.heap.size + 1) 29 23 #[.int .i64 a0_0, .int .i64 a0_1, .int .i64 a0_2, .int .i64 a0_3, .int .i64 a0_4, .int .i64 a0_5, .int .i64 a0_6, .int .i64 a0_7, .slice A0_8 l0_8.length c0_8, .slice A0_9 l0_9.length c0_9, .slice A0_10 l0_10.length c0_10, .slice A0_11 l0_11.length c0_11] #[.int .i64 a0_0, .int .i64 a0_1, .int .i64 a0_2, .int .i64 a0_3, .int .i64 a0_4, .int .i64 a0_5, .int .i64 a0_6, .int .i64 a0_7] ((w.alloc (.cells #[.int .i64 a0_0, .int .i64 a0_1, .int .i64 a0_2, .int .i64 a0_3, .int .i64 a0_4, .int .i64 a0_5, .int .i64 a0_6, .int .i64 a0_7, .slice A0_8 l0_8.length c0_8, .slice A0_9 l0_9.length c0_9, .slice A0_10 l0_10.length c0_10, .slice A0_11 l0_11.length c0_11] 29)).alloc (.cells #[.int .i64 a0_0, .int .i64 a0_1, .int .i64 a0_2, .int .i64 a0_3, .int .i64 a0_4, .int .i64 a0_5, .int .i64 a0_6, .int .i64 a0_7] 23))) := ⟨⟨blk_alloc (blk_new w _) _, (by have h := blk_new (w.alloc (.cells #[.int .i64 a0_0, .int .i64 a0_1, .int .i64 a0_2, .int .i64 a0_3, .int .i64 a0_4, .int .i64 a0_5, .int .i64 a0_6, .int .i64 a0_7, .slice A0_8 l0_8.length c0_8, .slice A0_9 l0_9.length c0_9, .slice A0_10 l0_10.length c0_10, .slice A0_11 l0_11.length c0_11] 29)) (.cells #[.int .i64 a0_0, .int .i64 a0_1, .int .i64 a0_2, .int .i64 a0_3, .int .i64 a0_4, .int .i64 a0_5, .int .i64 a0_6, .int .i64 a0_7] 23); simp only [World.size_alloc] at h; exact h), below_alloc (below_alloc (Below.refl _ _) _) _, Nat.le_refl _, Nat.lt_succ_self _⟩⟩
  have HJ0 : Aside0 (CkOne w w.heap.size 29 #[.int .i64 a0_0, .int .i64 a0_1, .int .i64 a0_2, .int .i64 a0_3, .int .i64 a0_4, .int .i64 a0_5, .int .i64 a0_6, .int .i64 a0_7, .slice A0_8 l0_8.length c0_8, .slice A0_9 l0_9.length c0_9, .slice A0_10 l0_10.length c0_10, .slice A0_11 l0_11.length c0_11] (w.alloc (.cells #[.int .i64 a0_0, .int .i64 a0_1, .int .i64 a0_2, .int .i64 a0_3, .int .i64 a0_4, .int .i64 a0_5, .int .i64 a0_6, .int .i64 a0_7, .slice A0_8 l0_8.length c0_8, .slice A0_9 l0_9.length c0_9, .slice A0_10 l0_10.length c0_10, .slice A0_11 l0_11.length c0_11] 29))) := ⟨blk_new w _, below_alloc (Below.refl _ _) _, Nat.le_refl _⟩
  obtain ⟨t, ht, H⟩ := Option.bind_eq_some_iff.mp h
  clear h
  have HT := Aside0.mk ht
  clear ht
  have HW := Aside0.mk H
  clear H
  cases t with
  | false =>
    replace HW : Aside0 (some (20 : Int) = some r) := ⟨by have h := HW.out; simpa using h⟩
    go_enter Try.func17, Try.ntmps17
    have hm0 : (w.alloc (.cells #[.int .i64 a0_0, .int .i64 a0_1, .int .i64 a0_2, .int .i64 a0_3, .int .i64 a0_4, .int .i64 a0_5, .int .i64 a0_6, .int .i64 a0_7, .slice A0_8 l0_8.length c0_8, .slice A0_9 l0_9.length c0_9, .slice A0_10 l0_10.length c0_10, .slice A0_11 l0_11.length c0_11] 29)).cell? ⟨w.heap.size, 0, none⟩ = some (.int .i64 a0_0) := (blk_cell HJ0.out.b1 0).trans rfl
    have hm1 : (w.alloc (.cells #[.int .i64 a0_0, .int .i64 a0_1, .int .i64 a0_2, .int .i64 a0_3, .int .i64 a0_4, .int .i64 a0_5, .int .i64 a0_6, .int .i64 a0_7, .slice A0_8 l0_8.length c0_8, .slice A0_9 l0_9.length c0_9, .slice A0_10 l0_10.length c0_10, .slice A0_11 l0_11.length c0_11] 29)).cell? ⟨w.heap.size, 1, none⟩ = some (.int .i64 a0_1) := (blk_cell HJ0.out.b1 1).trans rfl
    have hm2 : (w.alloc (.cells #[.int .i64 a0_0, .int .i64 a0_1, .int .i64 a0_2, .int .i64 a0_3, .int .i64 a0_4, .int .i64 a0_5, .int .i64 a0_6, .int .i64 a0_7, .slice A0_8 l0_8.length c0_8, .slice A0_9 l0_9.length c0_9, .slice A0_10 l0_10.length c0_10, .slice A0_11 l0_11.length c0_11] 29)).cell? ⟨w.heap.size, 2, none⟩ = some (.int .i64 a0_2) := (blk_cell HJ0.out.b1 2).trans rfl
    have hm3 : (w.alloc (.cells #[.int .i64 a0_0, .int .i64 a0_1, .int .i64 a0_2, .int .i64 a0_3, .int .i64 a0_4, .int .i64 a0_5, .int .i64 a0_6, .int .i64 a0_7, .slice A0_8 l0_8.length c0_8, .slice A0_9 l0_9.length c0_9, .slice A0_10 l0_10.length c0_10, .slice A0_11 l0_11.length c0_11] 29)).cell? ⟨w.heap.size, 3, none⟩ = some (.int .i64 a0_3) := (blk_cell HJ0.out.b1 3).trans rfl
    have hm4 : (w.alloc (.cells #[.int .i64 a0_0, .int .i64 a0_1, .int .i64 a0_2, .int .i64 a0_3, .int .i64 a0_4, .int .i64 a0_5, .int .i64 a0_6, .int .i64 a0_7, .slice A0_8 l0_8.length c0_8, .slice A0_9 l0_9.length c0_9, .slice A0_10 l0_10.length c0_10, .slice A0_11 l0_11.length c0_11] 29)).cell? ⟨w.heap.size, 4, none⟩ = some (.int .i64 a0_4) := (blk_cell HJ0.out.b1 4).trans rfl
    have hm5 : (w.alloc (.cells #[.int .i64 a0_0, .int .i64 a0_1, .int .i64 a0_2, .int .i64 a0_3, .int .i64 a0_4, .int .i64 a0_5, .int .i64 a0_6, .int .i64 a0_7, .slice A0_8 l0_8.length c0_8, .slice A0_9 l0_9.length c0_9, .slice A0_10 l0_10.length c0_10, .slice A0_11 l0_11.length c0_11] 29)).cell? ⟨w.heap.size, 5, none⟩ = some (.int .i64 a0_5) := (blk_cell HJ0.out.b1 5).trans rfl
    have hm6 : (w.alloc (.cells #[.int .i64 a0_0, .int .i64 a0_1, .int .i64 a0_2, .int .i64 a0_3, .int .i64 a0_4, .int .i64 a0_5, .int .i64 a0_6, .int .i64 a0_7, .slice A0_8 l0_8.length c0_8, .slice A0_9 l0_9.length c0_9, .slice A0_10 l0_10.length c0_10, .slice A0_11 l0_11.length c0_11] 29)).cell? ⟨w.heap.size, 6, none⟩ = some (.int .i64 a0_6) := (blk_cell HJ0.out.b1 6).trans rfl
    have hm7 : (w.alloc (.cells #[.int .i64 a0_0, .int .i64 a0_1, .int .i64 a0_2, .int .i64 a0_3, .int .i64 a0_4, .int .i64 a0_5, .int .i64 a0_6, .int .i64 a0_7, .slice A0_8 l0_8.length c0_8, .slice A0_9 l0_9.length c0_9, .slice A0_10 l0_10.length c0_10, .slice A0_11 l0_11.length c0_11] 29)).cell? ⟨w.heap.size, 7, none⟩ = some (.int .i64 a0_7) := (blk_cell HJ0.out.b1 7).trans rfl
    have hm8 : (w.alloc (.cells #[.int .i64 a0_0, .int .i64 a0_1, .int .i64 a0_2, .int .i64 a0_3, .int .i64 a0_4, .int .i64 a0_5, .int .i64 a0_6, .int .i64 a0_7, .slice A0_8 l0_8.length c0_8, .slice A0_9 l0_9.length c0_9, .slice A0_10 l0_10.length c0_10, .slice A0_11 l0_11.length c0_11] 29)).cell? ⟨w.heap.size, 8, none⟩ = some (.slice A0_8 l0_8.length c0_8) := (blk_cell HJ0.out.b1 8).trans rfl
    have hm9 : (w.alloc (.cells #[.int .i64 a0_0, .int .i64 a0_1, .int .i64 a0_2, .int .i64 a0_3, .int .i64 a0_4, .int .i64 a0_5, .int .i64 a0_6, .int .i64 a0_7, .slice A0_8 l0_8.length c0_8, .slice A0_9 l0_9.length c0_9, .slice A0_10 l0_10.length c0_10, .slice A0_11 l0_11.length c0_11] 29)).cell? ⟨w.heap.size, 9, none⟩ = some (.slice A0_9 l0_9.length c0_9) := (blk_cell HJ0.out.b1 9).trans rfl
    have hm10 : (w.alloc (.cells #[.int .i64 a0_0, .int .i64 a0_1, .int .i64 a0_2, .int .i64 a0_3, .int .i64 a0_4, .int .i64 a0_5, .int .i64 a0_6, .int .i64 a0_7, .slice A0_8 l0_8.length c0_8, .slice A0_9 l0_9.length c0_9, .slice A0_10 l0_10.length c0_10, .slice A0_11 l0_11.length c0_11] 29)).cell? ⟨w.heap.size, 10, none⟩ = some (.slice A0_10 l0_10.length c0_10) := (blk_cell HJ0.out.b1 10).trans rfl
    have hm11 : (w.alloc (.cells #[.int .i64 a0_0, .int .i64 a0_1, .int .i64 a0_2, .int .i64 a0_3, .int .i64 a0_4, .int .i64 a0_5, .int .i64 a0_6, .int .i64 a0_7, .slice A0_8 l0_8.length c0_8, .slice A0_9 l0_9.length c0_9, .slice A0_10 l0_10.length c0_10, .slice A0_11 l0_11.length c0_11] 29)).cell? ⟨w.heap.size, 11, none⟩ = some (.slice A0_11 l0_11.length c0_11) := (blk_cell HJ0.out.b1 11).trans rfl
    have hc0 : ((w.alloc (.cells #[.int .i64 a0_0, .int .i64 a0_1, .int .i64 a0_2, .int .i64 a0_3, .int .i64 a0_4, .int .i64 a0_5, .int .i64 a0_6, .int .i64 a0_7, .slice A0_8 l0_8.length c0_8, .slice A0_9 l0_9.length c0_9, .slice A0_10 l0_10.length c0_10, .slice A0_11 l0_11.length c0_11] 29)).alloc (.cells #[.int .i64 a0_0, .int .i64 a0_1, .int .i64 a0_2, .int .i64 a0_3, .int .i64 a0_4, .int .i64 a0_5, .int .i64 a0_6, .int .i64 a0_7] 23)).cell? ⟨w.heap.size + 1, 0, none⟩ = some (.int .i64 a0_0) := (blk_cell HI0.out.b2 0).trans rfl
    have hc1 : ((w.alloc (.cells #[.int .i64 a0_0, .int .i64 a0_1, .int .i64 a0_2, .int .i64 a0_3, .int .i64 a0_4, .int .i64 a0_5, .int .i64 a0_6, .int .i64 a0_7, .slice A0_8 l0_8.length c0_8, .slice A0_9 l0_9.length c0_9, .slice A0_10 l0_10.length c0_10, .slice A0_11 l0_11.length c0_11] 29)).alloc (.cells #[.int .i64 a0_0, .int .i64 a0_1, .int .i64 a0_2, .int .i64 a0_3, .int .i64 a0_4, .int .i64 a0_5, .int .i64 a0_6, .int .i64 a0_7] 23)).cell? ⟨w.heap.size + 1, 1, none⟩ = some (.int .i64 a0_1) := (blk_cell HI0.out.b2 1).trans rfl
    have hc2 : ((w.alloc (.cells #[.int .i64 a0_0, .int .i64 a0_1, .int .i64 a0_2, .int .i64 a0_3, .int .i64 a0_4, .int .i64 a0_5, .int .i64 a0_6, .int .i64 a0_7, .slice A0_8 l0_8.length c0_8, .slice A0_9 l0_9.length c0_9, .slice A0_10 l0_10.length c0_10, .slice A0_11 l0_11.length c0_11] 29)).alloc (.cells #[.int .i64 a0_0, .int .i64 a0_1, .int .i64 a0_2, .int .i64 a0_3, .int .i64 a0_4, .int .i64 a0_5, .int .i64 a0_6, .int .i64 a0_7] 23)).cell? ⟨w.heap.size + 1, 2, none⟩ = some (.int .i64 a0_2) := (blk_cell HI0.out.b2 2).trans rfl
    have hc3 : ((w.alloc (.cells #[.int .i64 a0_0, .int .i64 a0_1, .int .i64 a0_2, .int .i64 a0_3, .int .i64 a0_4, .int .i64 a0_5, .int .i64 a0_6, .int .i64 a0_7, .slice A0_8 l0_8.length c0_8, .slice A0_9 l0_9.length c0_9, .slice A0_10 l0_10.length c0_10, .slice A0_11 l0_11.length c0_11] 29)).alloc (.cells #[.int .i64 a0_0, .int .i64 a0_1, .int .i64 a0_2, .int .i64 a0_3, .int .i64 a0_4, .int .i64 a0_5, .int .i64 a0_6, .int .i64 a0_7] 23)).cell? ⟨w.heap.size + 1, 3, none⟩ = some (.int .i64 a0_3) := (blk_cell HI0.out.b2 3).trans rfl
    have hc4 : ((w.alloc (.cells #[.int .i64 a0_0, .int .i64 a0_1, .int .i64 a0_2, .int .i64 a0_3, .int .i64 a0_4, .int .i64 a0_5, .int .i64 a0_6, .int .i64 a0_7, .slice A0_8 l0_8.length c0_8, .slice A0_9 l0_9.length c0_9, .slice A0_10 l0_10.length c0_10, .slice A0_11 l0_11.length c0_11] 29)).alloc (.cells #[.int .i64 a0_0, .int .i64 a0_1, .int .i64 a0_2, .int .i64 a0_3, .int .i64 a0_4, .int .i64 a0_5, .int .i64 a0_6, .int .i64 a0_7] 23)).cell? ⟨w.heap.size + 1, 4, none⟩ = some (.int .i64 a0_4) := (blk_cell HI0.out.b2 4).trans rfl
    have hc5 : ((w.alloc (.cells #[.int .i64 a0_0, .int .i64 a0_1, .int .i64 a0_2, .int .i64 a0_3, .int .i64 a0_4, .int .i64 a0_5, .int .i64 a0_6, .int .i64 a0_7, .slice A0_8 l0_8.length c0_8, .slice A0_9 l0_9.length c0_9, .slice A0_10 l0_10.length c0_10, .slice A0_11 l0_11.length c0_11] 29)).alloc (.cells #[.int .i64 a0_0, .int .i64 a0_1, .int .i64 a0_2, .int .i64 a0_3, .int .i64 a0_4, .int .i64 a0_5, .int .i64 a0_6, .int .i64 a0_7] 23)).cell? ⟨w.heap.size + 1, 5, none⟩ = some (.int .i64 a0_5) := (blk_cell HI0.out.b2 5).trans rfl
    have hc6 : ((w.alloc (.cells #[.int .i64 a0_0, .int .i64 a0_1, .int .i64 a0_2, .int .i64 a0_3, .int .i64 a0_4, .int .i64 a0_5, .int .i64 a0_6, .int .i64 a0_7, .slice A0_8 l0_8.length c0_8, .slice A0_9 l0_9.length c0_9, .slice A0_10 l0_10.length c0_10, .slice A0_11 l0_11.length c0_11] 29)).alloc (.cells #[.int .i64 a0_0, .int .i64 a0_1, .int .i64 a0_2, .int .i64 a0_3, .int .i64 a0_4, .int .i64 a0_5, .int .i64 a0_6, .int .i64 a0_7] 23)).cell? ⟨w.heap.size + 1, 6, none⟩ = some (.int .i64 a0_6) := (blk_cell HI0.out.b2 6).trans rfl
    have hc7 : ((w.alloc (.cells #[.int .i64 a0_0, .int .i64 a0_1, .int .i64 a0_2, .int .i64 a0_3, .int .i64 a0_4, .int .i64 a0_5, .int .i64 a0_6, .int .i64 a0_7, .slice A0_8 l0_8.length c0_8, .slice A0_9 l0_9.length c0_9, .slice A0_10 l0_10.length c0_10, .slice A0_11 l0_11.length c0_11] 29)).alloc (.cells #[.int .i64 a0_0, .int .i64 a0_1, .int .i64 a0_2, .int .i64 a0_3, .int .i64 a0_4, .int .i64 a0_5, .int .i64 a0_6, .int .i64 a0_7] 23)).cell? ⟨w.heap.size + 1, 7, none⟩ = some (.int .i64 a0_7) := (blk_cell HI0.out.b2 7).trans rfl
    go_wp2_with (first | ((with_reducible refine gate_callee (f := 10) rfl ?_); refine goesL_ (some 13) rfl rfl Try.func10 (by kernel_rfl) rfl #[.agg #[.int .i64 a0_0, .int .i64 a0_1, .int .i64 a0_2, .int .i64 a0_3, .int .i64 a0_4, .int .i64 a0_5, .int .i64 a0_6, .int .i64 a0_7]] rfl (by (try simp only [List.map_toArray, List.map_cons, List.map_nil]); first | done | rfl) ?_; (with_reducible refine (aviaryref09_Config.calls k a0_0 a0_1 a0_2 a0_3 a0_4 a0_5 a0_6 a0_7 false _ HT.out).mono ?_); rintro e w1 ⟨rfl, hb⟩; refine ⟨_, rfl, ?_⟩; have HI := Aside0.mk (HI0.out.below hb); clear hb HI0; clear hm0 hm1 hm2 hm3 hm4 hm5 hm6 hm7 hm8 hm9 hm10 hm11 hc0 hc1 hc2 hc3 hc4 hc5 hc6 hc7; have hm0 : w1.cell? ⟨w.heap.size, 0, none⟩ = some (.int .i64 a0_0) := (blk_cell HI.out.b1 0).trans rfl; have hm1 : w1.cell? ⟨w.heap.size, 1, none⟩ = some (.int .i64 a0_1) := (blk_cell HI.out.b1 1).trans rfl; have hm2 : w1.cell? ⟨w.heap.size, 2, none⟩ = some (.int .i64 a0_2) := (blk_cell HI.out.b1 2).trans rfl; have hm3 : w1.cell? ⟨w.heap.size, 3, none⟩ = some (.int .i64 a0_3) := (blk_cell HI.out.b1 3).trans rfl; have hm4 : w1.cell? ⟨w.heap.size, 4, none⟩ = some (.int .i64 a0_4) := (blk_cell HI.out.b1 4).trans rfl; have hm5 : w1.cell? ⟨w.heap.size, 5, none⟩ = some (.int .i64 a0_5) := (blk_cell HI.out.b1 5).trans rfl; have hm6 : w1.cell? ⟨w.heap.size, 6, none⟩ = some (.int .i64 a0_6) := (blk_cell HI.out.b1 6).trans rfl; have hm7 : w1.cell? ⟨w.heap.size, 7, none⟩ = some (.int .i64 a0_7) := (blk_cell HI.out.b1 7).trans rfl; have hm8 : w1.cell? ⟨w.heap.size, 8, none⟩ = some (.slice A0_8 l0_8.length c0_8) := (blk_cell HI.out.b1 8).trans rfl; have hm9 : w1.cell? ⟨w.heap.size, 9, none⟩ = some (.slice A0_9 l0_9.length c0_9) := (blk_cell HI.out.b1 9).trans rfl; have hm10 : w1.cell? ⟨w.heap.size, 10, none⟩ = some (.slice A0_10 l0_10.length c0_10) := (blk_cell HI.out.b1 10).trans rfl; have hm11 : w1.cell? ⟨w.heap.size, 11, none⟩ = some (.slice A0_11 l0_11.length c0_11) := (blk_cell HI.out.b1 11).trans rfl; have hc0 : w1.cell? ⟨w.heap.size + 1, 0, none⟩ = some (.int .i64 a0_0) := (blk_cell HI.out.b2 0).trans rfl; have hc1 : w1.cell? ⟨w.heap.size + 1, 1, none⟩ = some (.int .i64 a0_1) := (blk_cell HI.out.b2 1).trans rfl; have hc2 : w1.cell? ⟨w.heap.size + 1, 2, none⟩ = some (.int .i64 a0_2) := (blk_cell HI.out.b2 2).trans rfl; have hc3 : w1.cell? ⟨w.heap.size + 1, 3, none⟩ = some (.int .i64 a0_3) := (blk_cell HI.out.b2 3).trans rfl; have hc4 : w1.cell? ⟨w.heap.size + 1, 4, none⟩ = some (.int .i64 a0_4) := (blk_cell HI.out.b2 4).trans rfl; have hc5 : w1.cell? ⟨w.heap.size + 1, 5, none⟩ = some (.int .i64 a0_5) := (blk_cell HI.out.b2 5).trans rfl; have hc6 : w1.cell? ⟨w.heap.size + 1, 6, none⟩ = some (.int .i64 a0_6) := (blk_cell HI.out.b2 6).trans rfl; have hc7 : w1.cell? ⟨w.heap.size + 1, 7, none⟩ = some (.int .i64 a0_7) := (blk_cell HI.out.b2 7).trans rfl))
    go_ret
    obtain rfl := Option.some.inj HW.out
    exact ⟨rfl, HI.out.bl⟩
  | true =>
    obtain ⟨hrn, HW2⟩ : rngM a0_0 a0_2 a0_3 a0_4 a0_5 = true ∧ r = (if rfitM a0_0 a0_2 a0_3 a0_4 a0_5 l0_8 l0_9 l0_10 l0_11 = true then 0 else 21) := by
      have h := HW.out
      rw [if_pos rfl] at h
      by_cases hr : rngM a0_0 a0_2 a0_3 a0_4 a0_5 = true
      · rw [if_pos hr] at h; exact ⟨hr, (Option.some.inj h).symm⟩
      · rw [if_neg hr] at h; exact absurd h (by simp)
    clear HW
    have HW := Aside0.mk HW2
    have HRN := Aside0.mk hrn
    have hrn2 := hrn
    simp only [rngM, decide_eq_true_eq] at hrn2
    have w30 : wrap64 (a0_3 * a0_0) = a0_3 * a0_0 := rng_mul (by omega) (by omega) (by omega) (by omega)
    have w00 : wrap64 (a0_0 * a0_0) = a0_0 * a0_0 := rng_mul (by omega) (by omega) (by omega) (by omega)
    have w50 : wrap64 (a0_5 * a0_0) = a0_5 * a0_0 := rng_mul (by omega) (by omega) (by omega) (by omega)
    have w40 : wrap64 (a0_4 * a0_0) = a0_4 * a0_0 := rng_mul (by omega) (by omega) (by omega) (by omega)
    have w04 : wrap64 (a0_0 * a0_4) = a0_0 * a0_4 := rng_mul (by omega) (by omega) (by omega) (by omega)
    clear HW2 hrn
    obtain ⟨nx, hnx⟩ : ∃ nx, mx a0_5 1 = nx := ⟨_, rfl⟩
    have hmx : (if (1 : Int) < a0_5 then a0_5 else 1) = nx := by rw [← hnx]; unfold mx; split <;> split <;> omega
    have hnx1 : 1 ≤ nx := by rw [← hnx]; unfold mx; split <;> omega
    have hnx2 : nx ≤ 9223372036854775806 := by rw [← hnx]; unfold mx; split <;> omega
    have HNX := Aside0.mk hnx
    clear hnx hrn2
    go_enter Try.func17, Try.ntmps17
    have hm0 : (w.alloc (.cells #[.int .i64 a0_0, .int .i64 a0_1, .int .i64 a0_2, .int .i64 a0_3, .int .i64 a0_4, .int .i64 a0_5, .int .i64 a0_6, .int .i64 a0_7, .slice A0_8 l0_8.length c0_8, .slice A0_9 l0_9.length c0_9, .slice A0_10 l0_10.length c0_10, .slice A0_11 l0_11.length c0_11] 29)).cell? ⟨w.heap.size, 0, none⟩ = some (.int .i64 a0_0) := (blk_cell HJ0.out.b1 0).trans rfl
    have hm1 : (w.alloc (.cells #[.int .i64 a0_0, .int .i64 a0_1, .int .i64 a0_2, .int .i64 a0_3, .int .i64 a0_4, .int .i64 a0_5, .int .i64 a0_6, .int .i64 a0_7, .slice A0_8 l0_8.length c0_8, .slice A0_9 l0_9.length c0_9, .slice A0_10 l0_10.length c0_10, .slice A0_11 l0_11.length c0_11] 29)).cell? ⟨w.heap.size, 1, none⟩ = some (.int .i64 a0_1) := (blk_cell HJ0.out.b1 1).trans rfl
    have hm2 : (w.alloc (.cells #[.int .i64 a0_0, .int .i64 a0_1, .int .i64 a0_2, .int .i64 a0_3, .int .i64 a0_4, .int .i64 a0_5, .int .i64 a0_6, .int .i64 a0_7, .slice A0_8 l0_8.length c0_8, .slice A0_9 l0_9.length c0_9, .slice A0_10 l0_10.length c0_10, .slice A0_11 l0_11.length c0_11] 29)).cell? ⟨w.heap.size, 2, none⟩ = some (.int .i64 a0_2) := (blk_cell HJ0.out.b1 2).trans rfl
    have hm3 : (w.alloc (.cells #[.int .i64 a0_0, .int .i64 a0_1, .int .i64 a0_2, .int .i64 a0_3, .int .i64 a0_4, .int .i64 a0_5, .int .i64 a0_6, .int .i64 a0_7, .slice A0_8 l0_8.length c0_8, .slice A0_9 l0_9.length c0_9, .slice A0_10 l0_10.length c0_10, .slice A0_11 l0_11.length c0_11] 29)).cell? ⟨w.heap.size, 3, none⟩ = some (.int .i64 a0_3) := (blk_cell HJ0.out.b1 3).trans rfl
    have hm4 : (w.alloc (.cells #[.int .i64 a0_0, .int .i64 a0_1, .int .i64 a0_2, .int .i64 a0_3, .int .i64 a0_4, .int .i64 a0_5, .int .i64 a0_6, .int .i64 a0_7, .slice A0_8 l0_8.length c0_8, .slice A0_9 l0_9.length c0_9, .slice A0_10 l0_10.length c0_10, .slice A0_11 l0_11.length c0_11] 29)).cell? ⟨w.heap.size, 4, none⟩ = some (.int .i64 a0_4) := (blk_cell HJ0.out.b1 4).trans rfl
    have hm5 : (w.alloc (.cells #[.int .i64 a0_0, .int .i64 a0_1, .int .i64 a0_2, .int .i64 a0_3, .int .i64 a0_4, .int .i64 a0_5, .int .i64 a0_6, .int .i64 a0_7, .slice A0_8 l0_8.length c0_8, .slice A0_9 l0_9.length c0_9, .slice A0_10 l0_10.length c0_10, .slice A0_11 l0_11.length c0_11] 29)).cell? ⟨w.heap.size, 5, none⟩ = some (.int .i64 a0_5) := (blk_cell HJ0.out.b1 5).trans rfl
    have hm6 : (w.alloc (.cells #[.int .i64 a0_0, .int .i64 a0_1, .int .i64 a0_2, .int .i64 a0_3, .int .i64 a0_4, .int .i64 a0_5, .int .i64 a0_6, .int .i64 a0_7, .slice A0_8 l0_8.length c0_8, .slice A0_9 l0_9.length c0_9, .slice A0_10 l0_10.length c0_10, .slice A0_11 l0_11.length c0_11] 29)).cell? ⟨w.heap.size, 6, none⟩ = some (.int .i64 a0_6) := (blk_cell HJ0.out.b1 6).trans rfl
    have hm7 : (w.alloc (.cells #[.int .i64 a0_0, .int .i64 a0_1, .int .i64 a0_2, .int .i64 a0_3, .int .i64 a0_4, .int .i64 a0_5, .int .i64 a0_6, .int .i64 a0_7, .slice A0_8 l0_8.length c0_8, .slice A0_9 l0_9.length c0_9, .slice A0_10 l0_10.length c0_10, .slice A0_11 l0_11.length c0_11] 29)).cell? ⟨w.heap.size, 7, none⟩ = some (.int .i64 a0_7) := (blk_cell HJ0.out.b1 7).trans rfl
    have hm8 : (w.alloc (.cells #[.int .i64 a0_0, .int .i64 a0_1, .int .i64 a0_2, .int .i64 a0_3, .int .i64 a0_4, .int .i64 a0_5, .int .i64 a0_6, .int .i64 a0_7, .slice A0_8 l0_8.length c0_8, .slice A0_9 l0_9.length c0_9, .slice A0_10 l0_10.length c0_10, .slice A0_11 l0_11.length c0_11] 29)).cell? ⟨w.heap.size, 8, none⟩ = some (.slice A0_8 l0_8.length c0_8) := (blk_cell HJ0.out.b1 8).trans rfl
    have hm9 : (w.alloc (.cells #[.int .i64 a0_0, .int .i64 a0_1, .int .i64 a0_2, .int .i64 a0_3, .int .i64 a0_4, .int .i64 a0_5, .int .i64 a0_6, .int .i64 a0_7, .slice A0_8 l0_8.length c0_8, .slice A0_9 l0_9.length c0_9, .slice A0_10 l0_10.length c0_10, .slice A0_11 l0_11.length c0_11] 29)).cell? ⟨w.heap.size, 9, none⟩ = some (.slice A0_9 l0_9.length c0_9) := (blk_cell HJ0.out.b1 9).trans rfl
    have hm10 : (w.alloc (.cells #[.int .i64 a0_0, .int .i64 a0_1, .int .i64 a0_2, .int .i64 a0_3, .int .i64 a0_4, .int .i64 a0_5, .int .i64 a0_6, .int .i64 a0_7, .slice A0_8 l0_8.length c0_8, .slice A0_9 l0_9.length c0_9, .slice A0_10 l0_10.length c0_10, .slice A0_11 l0_11.length c0_11] 29)).cell? ⟨w.heap.size, 10, none⟩ = some (.slice A0_10 l0_10.length c0_10) := (blk_cell HJ0.out.b1 10).trans rfl
    have hm11 : (w.alloc (.cells #[.int .i64 a0_0, .int .i64 a0_1, .int .i64 a0_2, .int .i64 a0_3, .int .i64 a0_4, .int .i64 a0_5, .int .i64 a0_6, .int .i64 a0_7, .slice A0_8 l0_8.length c0_8, .slice A0_9 l0_9.length c0_9, .slice A0_10 l0_10.length c0_10, .slice A0_11 l0_11.length c0_11] 29)).cell? ⟨w.heap.size, 11, none⟩ = some (.slice A0_11 l0_11.length c0_11) := (blk_cell HJ0.out.b1 11).trans rfl
    have hc0 : ((w.alloc (.cells #[.int .i64 a0_0, .int .i64 a0_1, .int .i64 a0_2, .int .i64 a0_3, .int .i64 a0_4, .int .i64 a0_5, .int .i64 a0_6, .int .i64 a0_7, .slice A0_8 l0_8.length c0_8, .slice A0_9 l0_9.length c0_9, .slice A0_10 l0_10.length c0_10, .slice A0_11 l0_11.length c0_11] 29)).alloc (.cells #[.int .i64 a0_0, .int .i64 a0_1, .int .i64 a0_2, .int .i64 a0_3, .int .i64 a0_4, .int .i64 a0_5, .int .i64 a0_6, .int .i64 a0_7] 23)).cell? ⟨w.heap.size + 1, 0, none⟩ = some (.int .i64 a0_0) := (blk_cell HI0.out.b2 0).trans rfl
    have hc1 : ((w.alloc (.cells #[.int .i64 a0_0, .int .i64 a0_1, .int .i64 a0_2, .int .i64 a0_3, .int .i64 a0_4, .int .i64 a0_5, .int .i64 a0_6, .int .i64 a0_7, .slice A0_8 l0_8.length c0_8, .slice A0_9 l0_9.length c0_9, .slice A0_10 l0_10.length c0_10, .slice A0_11 l0_11.length c0_11] 29)).alloc (.cells #[.int .i64 a0_0, .int .i64 a0_1, .int .i64 a0_2, .int .i64 a0_3, .int .i64 a0_4, .int .i64 a0_5, .int .i64 a0_6, .int .i64 a0_7] 23)).cell? ⟨w.heap.size + 1, 1, none⟩ = some (.int .i64 a0_1) := (blk_cell HI0.out.b2 1).trans rfl
    have hc2 : ((w.alloc (.cells #[.int .i64 a0_0, .int .i64 a0_1, .int .i64 a0_2, .int .i64 a0_3, .int .i64 a0_4, .int .i64 a0_5, .int .i64 a0_6, .int .i64 a0_7, .slice A0_8 l0_8.length c0_8, .slice A0_9 l0_9.length c0_9, .slice A0_10 l0_10.length c0_10, .slice A0_11 l0_11.length c0_11] 29)).alloc (.cells #[.int .i64 a0_0, .int .i64 a0_1, .int .i64 a0_2, .int .i64 a0_3, .int .i64 a0_4, .int .i64 a0_5, .int .i64 a0_6, .int .i64 a0_7] 23)).cell? ⟨w.heap.size + 1, 2, none⟩ = some (.int .i64 a0_2) := (blk_cell HI0.out.b2 2).trans rfl
    have hc3 : ((w.alloc (.cells #[.int .i64 a0_0, .int .i64 a0_1, .int .i64 a0_2, .int .i64 a0_3, .int .i64 a0_4, .int .i64 a0_5, .int .i64 a0_6, .int .i64 a0_7, .slice A0_8 l0_8.length c0_8, .slice A0_9 l0_9.length c0_9, .slice A0_10 l0_10.length c0_10, .slice A0_11 l0_11.length c0_11] 29)).alloc (.cells #[.int .i64 a0_0, .int .i64 a0_1, .int .i64 a0_2, .int .i64 a0_3, .int .i64 a0_4, .int .i64 a0_5, .int .i64 a0_6, .int .i64 a0_7] 23)).cell? ⟨w.heap.size + 1, 3, none⟩ = some (.int .i64 a0_3) := (blk_cell HI0.out.b2 3).trans rfl
    have hc4 : ((w.alloc (.cells #[.int .i64 a0_0, .int .i64 a0_1, .int .i64 a0_2, .int .i64 a0_3, .int .i64 a0_4, .int .i64 a0_5, .int .i64 a0_6, .int .i64 a0_7, .slice A0_8 l0_8.length c0_8, .slice A0_9 l0_9.length c0_9, .slice A0_10 l0_10.length c0_10, .slice A0_11 l0_11.length c0_11] 29)).alloc (.cells #[.int .i64 a0_0, .int .i64 a0_1, .int .i64 a0_2, .int .i64 a0_3, .int .i64 a0_4, .int .i64 a0_5, .int .i64 a0_6, .int .i64 a0_7] 23)).cell? ⟨w.heap.size + 1, 4, none⟩ = some (.int .i64 a0_4) := (blk_cell HI0.out.b2 4).trans rfl
    have hc5 : ((w.alloc (.cells #[.int .i64 a0_0, .int .i64 a0_1, .int .i64 a0_2, .int .i64 a0_3, .int .i64 a0_4, .int .i64 a0_5, .int .i64 a0_6, .int .i64 a0_7, .slice A0_8 l0_8.length c0_8, .slice A0_9 l0_9.length c0_9, .slice A0_10 l0_10.length c0_10, .slice A0_11 l0_11.length c0_11] 29)).alloc (.cells #[.int .i64 a0_0, .int .i64 a0_1, .int .i64 a0_2, .int .i64 a0_3, .int .i64 a0_4, .int .i64 a0_5, .int .i64 a0_6, .int .i64 a0_7] 23)).cell? ⟨w.heap.size + 1, 5, none⟩ = some (.int .i64 a0_5) := (blk_cell HI0.out.b2 5).trans rfl
    have hc6 : ((w.alloc (.cells #[.int .i64 a0_0, .int .i64 a0_1, .int .i64 a0_2, .int .i64 a0_3, .int .i64 a0_4, .int .i64 a0_5, .int .i64 a0_6, .int .i64 a0_7, .slice A0_8 l0_8.length c0_8, .slice A0_9 l0_9.length c0_9, .slice A0_10 l0_10.length c0_10, .slice A0_11 l0_11.length c0_11] 29)).alloc (.cells #[.int .i64 a0_0, .int .i64 a0_1, .int .i64 a0_2, .int .i64 a0_3, .int .i64 a0_4, .int .i64 a0_5, .int .i64 a0_6, .int .i64 a0_7] 23)).cell? ⟨w.heap.size + 1, 6, none⟩ = some (.int .i64 a0_6) := (blk_cell HI0.out.b2 6).trans rfl
    have hc7 : ((w.alloc (.cells #[.int .i64 a0_0, .int .i64 a0_1, .int .i64 a0_2, .int .i64 a0_3, .int .i64 a0_4, .int .i64 a0_5, .int .i64 a0_6, .int .i64 a0_7, .slice A0_8 l0_8.length c0_8, .slice A0_9 l0_9.length c0_9, .slice A0_10 l0_10.length c0_10, .slice A0_11 l0_11.length c0_11] 29)).alloc (.cells #[.int .i64 a0_0, .int .i64 a0_1, .int .i64 a0_2, .int .i64 a0_3, .int .i64 a0_4, .int .i64 a0_5, .int .i64 a0_6, .int .i64 a0_7] 23)).cell? ⟨w.heap.size + 1, 7, none⟩ = some (.int .i64 a0_7) := (blk_cell HI0.out.b2 7).trans rfl
    obtain ⟨b0, hb0⟩ : ∃ b0 : Bool, b0 = (decide ((l0_9.length : Int) = a0_2) && (rfit (a0_3 * a0_0) l0_8 && (rfit a0_0 l0_10 && rfit (a0_3 * a0_0) l0_11))) := ⟨_, rfl⟩
    have HB0 := Aside0.mk hb0
    clear hb0
    go_upto_region 5 with (first | ((with_reducible refine gate_callee (f := 10) rfl ?_); refine goesL_ (some 13) rfl rfl Try.func10 (by kernel_rfl) rfl #[.agg #[.int .i64 a0_0, .int .i64 a0_1, .int .i64 a0_2, .int .i64 a0_3, .int .i64 a0_4, .int .i64 a0_5, .int .i64 a0_6, .int .i64 a0_7]] rfl (by (try simp only [List.map_toArray, List.map_cons, List.map_nil]); first | done | rfl) ?_; (with_reducible refine (aviaryref09_Config.calls k a0_0 a0_1 a0_2 a0_3 a0_4 a0_5 a0_6 a0_7 true _ HT.out).mono ?_); rintro e w1 ⟨rfl, hb⟩; refine ⟨_, rfl, ?_⟩; have HI := Aside0.mk (HI0.out.below hb); clear hb HI0; clear hm0 hm1 hm2 hm3 hm4 hm5 hm6 hm7 hm8 hm9 hm10 hm11 hc0 hc1 hc2 hc3 hc4 hc5 hc6 hc7; have hm0 : w1.cell? ⟨w.heap.size, 0, none⟩ = some (.int .i64 a0_0) := (blk_cell HI.out.b1 0).trans rfl; have hm1 : w1.cell? ⟨w.heap.size, 1, none⟩ = some (.int .i64 a0_1) := (blk_cell HI.out.b1 1).trans rfl; have hm2 : w1.cell? ⟨w.heap.size, 2, none⟩ = some (.int .i64 a0_2) := (blk_cell HI.out.b1 2).trans rfl; have hm3 : w1.cell? ⟨w.heap.size, 3, none⟩ = some (.int .i64 a0_3) := (blk_cell HI.out.b1 3).trans rfl; have hm4 : w1.cell? ⟨w.heap.size, 4, none⟩ = some (.int .i64 a0_4) := (blk_cell HI.out.b1 4).trans rfl; have hm5 : w1.cell? ⟨w.heap.size, 5, none⟩ = some (.int .i64 a0_5) := (blk_cell HI.out.b1 5).trans rfl; have hm6 : w1.cell? ⟨w.heap.size, 6, none⟩ = some (.int .i64 a0_6) := (blk_cell HI.out.b1 6).trans rfl; have hm7 : w1.cell? ⟨w.heap.size, 7, none⟩ = some (.int .i64 a0_7) := (blk_cell HI.out.b1 7).trans rfl; have hm8 : w1.cell? ⟨w.heap.size, 8, none⟩ = some (.slice A0_8 l0_8.length c0_8) := (blk_cell HI.out.b1 8).trans rfl; have hm9 : w1.cell? ⟨w.heap.size, 9, none⟩ = some (.slice A0_9 l0_9.length c0_9) := (blk_cell HI.out.b1 9).trans rfl; have hm10 : w1.cell? ⟨w.heap.size, 10, none⟩ = some (.slice A0_10 l0_10.length c0_10) := (blk_cell HI.out.b1 10).trans rfl; have hm11 : w1.cell? ⟨w.heap.size, 11, none⟩ = some (.slice A0_11 l0_11.length c0_11) := (blk_cell HI.out.b1 11).trans rfl; have hc0 : w1.cell? ⟨w.heap.size + 1, 0, none⟩ = some (.int .i64 a0_0) := (blk_cell HI.out.b2 0).trans rfl; have hc1 : w1.cell? ⟨w.heap.size + 1, 1, none⟩ = some (.int .i64 a0_1) := (blk_cell HI.out.b2 1).trans rfl; have hc2 : w1.cell? ⟨w.heap.size + 1, 2, none⟩ = some (.int .i64 a0_2) := (blk_cell HI.out.b2 2).trans rfl; have hc3 : w1.cell? ⟨w.heap.size + 1, 3, none⟩ = some (.int .i64 a0_3) := (blk_cell HI.out.b2 3).trans rfl; have hc4 : w1.cell? ⟨w.heap.size + 1, 4, none⟩ = some (.int .i64 a0_4) := (blk_cell HI.out.b2 4).trans rfl; have hc5 : w1.cell? ⟨w.heap.size + 1, 5, none⟩ = some (.int .i64 a0_5) := (blk_cell HI.out.b2 5).trans rfl; have hc6 : w1.cell? ⟨w.heap.size + 1, 6, none⟩ = some (.int .i64 a0_6) := (blk_cell HI.out.b2 6).trans rfl; have hc7 : w1.cell? ⟨w.heap.size + 1, 7, none⟩ = some (.int .i64 a0_7) := (blk_cell HI.out.b2 7).trans rfl))
    (try simp only [Act.put, List.setIfInBounds_toArray, List.set_cons_zero, List.set_cons_succ])
    go_cut [5] (fun v5 wc => v5 = .bool b0 ∧ Aside0 (CkTwo w w.heap.size (w.heap.size + 1) 29 23 #[.int .i64 a0_0, .int .i64 a0_1, .int .i64 a0_2, .int .i64 a0_3, .int .i64 a0_4, .int .i64 a0_5, .int .i64 a0_6, .int .i64 a0_7, .slice A0_8 l0_8.length c0_8, .slice A0_9 l0_9.length c0_9, .slice A0_10 l0_10.length c0_10, .slice A0_11 l0_11.length c0_11] #[.int .i64 a0_0, .int .i64 a0_1, .int .i64 a0_2, .int .i64 a0_3, .int .i64 a0_4, .int .i64 a0_5, .int .i64 a0_6, .int .i64 a0_7] wc))
    case first =>
      by_cases c0 : (l0_9.length : Int) = a0_2
      · have e0 : ((l0_9.length : Int) == a0_2) = true := beq_iff_eq.mpr c0
        by_cases c1 : (l0_8.length : Int) = a0_3 * a0_0
        · have e1 : ((l0_8.length : Int) == a0_3 * a0_0) = true := beq_iff_eq.mpr c1
          by_cases c2 : (l0_10.length : Int) = a0_0
          · have e2 : ((l0_10.length : Int) == a0_0) = true := beq_iff_eq.mpr c2
            by_cases c3 : (l0_11.length : Int) = a0_3 * a0_0
            · have e3 : ((l0_11.length : Int) == a0_3 * a0_0) = true := beq_iff_eq.mpr c3
              have HQ := Aside0.mk (And.intro c0 (And.intro c1 (And.intro c2 c3)))
              clear c0 c1 c2 c3
              go_wp2
              go_meet
              case rel =>
                refine ⟨?_, HI⟩
                have hq := HQ.out
                rw [HB0.out]
                simp [rfit, hq]
            · have e3 : ((l0_11.length : Int) == a0_3 * a0_0) = false := beq_eq_false_iff_ne.mpr c3
              have HQ := Aside0.mk (And.intro c0 (And.intro c1 (And.intro c2 c3)))
              clear c0 c1 c2 c3
              go_wp2
              go_meet
              case rel =>
                refine ⟨?_, HI⟩
                have hq := HQ.out
                rw [HB0.out]
                simp [rfit, hq]
          · have e2 : ((l0_10.length : Int) == a0_0) = false := beq_eq_false_iff_ne.mpr c2
            have HQ := Aside0.mk (And.intro c0 (And.intro c1 c2))
            clear c0 c1 c2
            go_wp2
            go_meet
            case rel =>
              refine ⟨?_, HI⟩
              have hq := HQ.out
              rw [HB0.out]
              simp [rfit, hq]
        · have e1 : ((l0_8.length : Int) == a0_3 * a0_0) = false := beq_eq_false_iff_ne.mpr c1
          have HQ := Aside0.mk (And.intro c0 c1)
          clear c0 c1
          go_wp2
          go_meet
          case rel =>
            refine ⟨?_, HI⟩
            have hq := HQ.out
            rw [HB0.out]
            simp [rfit, hq]
      · have e0 : ((l0_9.length : Int) == a0_2) = false := beq_eq_false_iff_ne.mpr c0
        have HQ := Aside0.mk (c0)
        clear c0
        go_wp2
        go_meet
        case rel =>
          refine ⟨?_, HI⟩
          have hq := HQ.out
          rw [HB0.out]
          simp [rfit, hq]
    case rest =>
      obtain ⟨rfl, HI2⟩ := hcut
      clear HI hm0 hm1 hm2 hm3 hm4 hm5 hm6 hm7 hm8 hm9 hm10 hm11 hc0 hc1 hc2 hc3 hc4 hc5 hc6 hc7
      have HI := HI2
      clear HI2
      have hc5 : wc.cell? ⟨w.heap.size + 1, 5, none⟩ = some (.int .i64 a0_5) := (blk_cell HI.out.b2 5).trans rfl
      go_wp2
      clear hc5
      go_loopg [5, 7] l0_9.length (fun kq v5 v7 wr => ∃ (i : Nat) (b : Bool), v7 = .int .i64 (i : Int) ∧ v5 = .bool b ∧ i + kq = l0_9.length ∧ Aside0 (b = (b0 && (l0_9.take i).all (rfitL a0_0 a0_4 a0_5))) ∧ Aside0 (CkTwo w w.heap.size (w.heap.size + 1) 29 23 #[.int .i64 a0_0, .int .i64 a0_1, .int .i64 a0_2, .int .i64 a0_3, .int .i64 a0_4, .int .i64 a0_5, .int .i64 a0_6, .int .i64 a0_7, .slice A0_8 l0_8.length c0_8, .slice A0_9 l0_9.length c0_9, .slice A0_10 l0_10.length c0_10, .slice A0_11 l0_11.length c0_11] #[.int .i64 a0_0, .int .i64 a0_1, .int .i64 a0_2, .int .i64 a0_3, .int .i64 a0_4, .int .i64 a0_5, .int .i64 a0_6, .int .i64 a0_7] wr))
      case atStart => exact ⟨0, b0, rfl, rfl, by omega, ⟨by simp⟩, HI⟩
      case round =>
        obtain ⟨i, b, rfl, rfl, hik, HF, HI2⟩ := hrel
        clear HI
        have HI := HI2
        clear HI2
        have hlen : (l0_9.length : Int) ≤ 9223372036854775807 := by have := HR.out.2.1; omega
        have hm9 : wr.cell? ⟨w.heap.size, 9, none⟩ = some (.slice A0_9 l0_9.length c0_9) := (blk_cell HI.out.b1 9).trans rfl
        cases b with
        | false =>
          have CN : Aside0 (¬ rfitM a0_0 a0_2 a0_3 a0_4 a0_5 l0_8 l0_9 l0_10 l0_11 = true) := ⟨by
            intro h
            have h2 := Bool.and_eq_true_iff.1 h
            rw [← HB0.out] at h2
            have h3 : (l0_9.take i).all (rfitL a0_0 a0_4 a0_5) = true := by
              have h4 := h2.2
              rw [List.all_eq_true] at h4 ⊢
              exact fun x hx => h4 x (List.mem_of_mem_take hx)
            have h5 := HF.out
            rw [h3, h2.1] at h5
            exact absurd h5 (by simp)⟩
          by_cases ci : (i : Int) < (l0_9.length : Int)
          · have cb : decide ((i : Int) < (l0_9.length : Int)) = true := decide_eq_true ci
            go_wp2
            go_ret
            refine ⟨?_, HI.out.bl⟩
            rw [HW.out, if_neg CN.out]
            rfl
          · have cb : decide ((i : Int) < (l0_9.length : Int)) = false := decide_eq_false ci
            go_wp2
            go_ret
            refine ⟨?_, HI.out.bl⟩
            rw [HW.out, if_neg CN.out]
            rfl
        | true =>
          by_cases ci : i < l0_9.length
          · have cb : decide ((i : Int) < (l0_9.length : Int)) = true := decide_eq_true (by omega)
            have cp := eq_true (show 0 ≤ (i : Int) by omega)
            have cq := eq_true (show (i : Int) < (l0_9.length : Int) by omega)
            have HTK := Aside0.mk (ck_take ci)
            obtain ⟨ad, X0, y0, X1, y1, X2, y2, X3, y3, X4, y4, X5, y5, X6, y6, X7, y7, X8, y8, e_, hx0, hx1, hx2, hx3, hx4, hx5, hx6, hx7, hx8, -, -, -, -, -, -, -, -, -, -, -, -, -, -, -, g7, -, g8_⟩ := at_T59 HR.out (i : Int) (by omega) (by omega)
            subst e_
            rw [Int.toNat_natCast] at hx0 hx1 hx2 hx3 hx4 hx5 hx6 hx7 hx8
            replace hx0 := (HI.out.bl.cell (World.block_lt_of_cell? w _ hx0)).trans hx0
            replace hx1 := (HI.out.bl.cell (World.block_lt_of_cell? w _ hx1)).trans hx1
            replace hx2 := (HI.out.bl.cell (World.block_lt_of_cell? w _ hx2)).trans hx2
            replace hx3 := (HI.out.bl.cell (World.block_lt_of_cell? w _ hx3)).trans hx3
            replace hx4 := (HI.out.bl.cell (World.block_lt_of_cell? w _ hx4)).trans hx4
            replace hx5 := (HI.out.bl.cell (World.block_lt_of_cell? w _ hx5)).trans hx5
            replace hx6 := (HI.out.bl.cell (World.block_lt_of_cell? w _ hx6)).trans hx6
            replace hx7 := (HI.out.bl.cell (World.block_lt_of_cell? w _ hx7)).trans hx7
            replace hx8 := (HI.out.bl.cell (World.block_lt_of_cell? w _ hx8)).trans hx8
            generalize rd_T59 l0_9 (i : Int) = G at *
            have HG7 := Aside0.mk g7
            have HG8 := Aside0.mk g8_
            clear g7 g8_
            have HA := Aside0.mk (HI.out.below (below_alloc (Below.refl _ _) (.cells #[.slice X0 G.f0.length y0, .slice X1 G.f1.length y1, .slice X2 G.f2.length y2, .slice X3 G.f3.length y3, .slice X4 G.f4.length y4, .slice X5 G.f5.length y5, .slice X6 G.f6.length y6, .slice X7 G.f7.length y7, .slice X8 G.f8.length y8] 59)))
            have HB8 := Aside0.mk (blk_new wr (.cells #[.slice X0 G.f0.length y0, .slice X1 G.f1.length y1, .slice X2 G.f2.length y2, .slice X3 G.f3.length y3, .slice X4 G.f4.length y4, .slice X5 G.f5.length y5, .slice X6 G.f6.length y6, .slice X7 G.f7.length y7, .slice X8 G.f8.length y8] 59))
            obtain ⟨b9, hb9⟩ : ∃ b9 : Bool, b9 = rfitH a0_0 a0_5 G := ⟨_, rfl⟩
            have HB9 := Aside0.mk hb9
            clear hb9
            go_upto_region 11 with fail
            (try simp only [Act.put, List.setIfInBounds_toArray, List.set_cons_zero, List.set_cons_succ])
            clear hx0 hx1 hx2 hx3 hx4 hx5 hx6 hx7 hx8 hm9 HI
            generalize wr.heap.size = g8 at *
            generalize wr.alloc _ = w2 at *
            go_cut [5] (fun v5 wc => v5 = .bool b9 ∧ Aside0 (CkTwo w w.heap.size (w.heap.size + 1) 29 23 #[.int .i64 a0_0, .int .i64 a0_1, .int .i64 a0_2, .int .i64 a0_3, .int .i64 a0_4, .int .i64 a0_5, .int .i64 a0_6, .int .i64 a0_7, .slice A0_8 l0_8.length c0_8, .slice (some ad) l0_9.length c0_9, .slice A0_10 l0_10.length c0_10, .slice A0_11 l0_11.length c0_11] #[.int .i64 a0_0, .int .i64 a0_1, .int .i64 a0_2, .int .i64 a0_3, .int .i64 a0_4, .int .i64 a0_5, .int .i64 a0_6, .int .i64 a0_7] wc) ∧ Aside0 (wc.heap[g8]? = some (.cells #[.slice X0 G.f0.length y0, .slice X1 G.f1.length y1, .slice X2 G.f2.length y2, .slice X3 G.f3.length y3, .slice X4 G.f4.length y4, .slice X5 G.f5.length y5, .slice X6 G.f6.length y6, .slice X7 G.f7.length y7, .slice X8 G.f8.length y8] 59 (0, 0))))
            case first =>
              have hc5 : w2.cell? ⟨w.heap.size + 1, 5, none⟩ = some (.int .i64 a0_5) := (blk_cell HA.out.b2 5).trans rfl
              simp only [List.append]
              have hz0 : w2.cell? ⟨g8, 0, none⟩ = some (.slice X0 G.f0.length y0) := (blk_cell HB8.out 0).trans rfl
              have hz1 : w2.cell? ⟨g8, 1, none⟩ = some (.slice X1 G.f1.length y1) := (blk_cell HB8.out 1).trans rfl
              have hz2 : w2.cell? ⟨g8, 2, none⟩ = some (.slice X2 G.f2.length y2) := (blk_cell HB8.out 2).trans rfl
              have hz3 : w2.cell? ⟨g8, 3, none⟩ = some (.slice X3 G.f3.length y3) := (blk_cell HB8.out 3).trans rfl
              have hz4 : w2.cell? ⟨g8, 4, none⟩ = some (.slice X4 G.f4.length y4) := (blk_cell HB8.out 4).trans rfl
              have hz5 : w2.cell? ⟨g8, 5, none⟩ = some (.slice X5 G.f5.length y5) := (blk_cell HB8.out 5).trans rfl
              have hz6 : w2.cell? ⟨g8, 6, none⟩ = some (.slice X6 G.f6.length y6) := (blk_cell HB8.out 6).trans rfl
              have hz7 : w2.cell? ⟨g8, 7, none⟩ = some (.slice X7 G.f7.length y7) := (blk_cell HB8.out 7).trans rfl
              have hz8 : w2.cell? ⟨g8, 8, none⟩ = some (.slice X8 G.f8.length y8) := (blk_cell HB8.out 8).trans rfl
              by_cases d0 : (G.f0.length : Int) = a0_0
              · have e0 : ((G.f0.length : Int) == a0_0) = true := beq_iff_eq.mpr d0
                by_cases d1 : (G.f1.length : Int) = a0_0 * a0_0
                · have e1 : ((G.f1.length : Int) == a0_0 * a0_0) = true := beq_iff_eq.mpr d1
                  by_cases d2 : (G.f2.length : Int) = a0_0 * a0_0
                  · have e2 : ((G.f2.length : Int) == a0_0 * a0_0) = true := beq_iff_eq.mpr d2
                    by_cases d3 : (G.f3.length : Int) = a0_0 * a0_0
                    · have e3 : ((G.f3.length : Int) == a0_0 * a0_0) = true := beq_iff_eq.mpr d3
                      by_cases d4 : (G.f4.length : Int) = a0_0 * a0_0
                      · have e4 : ((G.f4.length : Int) == a0_0 * a0_0) = true := beq_iff_eq.mpr d4
                        by_cases d5 : (G.f5.length : Int) = a0_0
                        · have e5 : ((G.f5.length : Int) == a0_0) = true := beq_iff_eq.mpr d5
                          by_cases d6 : (G.f6.length : Int) = a0_5 * a0_0
                          · have e6 : ((G.f6.length : Int) == a0_5 * a0_0) = true := beq_iff_eq.mpr d6
                            by_cases d7 : (G.f7.length : Int) = nx
                            · have e7 : ((G.f7.length : Int) == nx) = true := beq_iff_eq.mpr d7
                              by_cases d8 : (G.f8.length : Int) = nx
                              · have e8 : ((G.f8.length : Int) == nx) = true := beq_iff_eq.mpr d8
                                have HQ := Aside0.mk (And.intro d0 (And.intro d1 (And.intro d2 (And.intro d3 (And.intro d4 (And.intro d5 (And.intro d6 (And.intro d7 d8))))))))
                                clear d0 d1 d2 d3 d4 d5 d6 d7 d8
                                go_wp2
                                go_meet
                                case rel =>
                                  refine ⟨?_, HA, HB8⟩
                                  have hq := HQ.out
                                  rw [HB9.out]
                                  simp [rfitH, rfit, HNX.out, hq]
                              · have e8 : ((G.f8.length : Int) == nx) = false := beq_eq_false_iff_ne.mpr d8
                                have HQ := Aside0.mk (And.intro d0 (And.intro d1 (And.intro d2 (And.intro d3 (And.intro d4 (And.intro d5 (And.intro d6 (And.intro d7 d8))))))))
                                clear d0 d1 d2 d3 d4 d5 d6 d7 d8
                                go_wp2
                                go_meet
                                case rel =>
                                  refine ⟨?_, HA, HB8⟩
                                  have hq := HQ.out
                                  rw [HB9.out]
                                  simp [rfitH, rfit, HNX.out, hq]
                            · have e7 : ((G.f7.length : Int) == nx) = false := beq_eq_false_iff_ne.mpr d7
                              have HQ := Aside0.mk (And.intro d0 (And.intro d1 (And.intro d2 (And.intro d3 (And.intro d4 (And.intro d5 (And.intro d6 d7)))))))
                              clear d0 d1 d2 d3 d4 d5 d6 d7
                              go_wp2
                              go_meet
                              case rel =>
                                refine ⟨?_, HA, HB8⟩
                                have hq := HQ.out
                                rw [HB9.out]
                                simp [rfitH, rfit, HNX.out, hq]
                          · have e6 : ((G.f6.length : Int) == a0_5 * a0_0) = false := beq_eq_false_iff_ne.mpr d6
                            have HQ := Aside0.mk (And.intro d0 (And.intro d1 (And.intro d2 (And.intro d3 (And.intro d4 (And.intro d5 d6))))))
                            clear d0 d1 d2 d3 d4 d5 d6
                            go_wp2
                            go_meet
                            case rel =>
                              refine ⟨?_, HA, HB8⟩
                              have hq := HQ.out
                              rw [HB9.out]
                              simp [rfitH, rfit, HNX.out, hq]
                        · have e5 : ((G.f5.length : Int) == a0_0) = false := beq_eq_false_iff_ne.mpr d5
                          have HQ := Aside0.mk (And.intro d0 (And.intro d1 (And.intro d2 (And.intro d3 (And.intro d4 d5)))))
                          clear d0 d1 d2 d3 d4 d5
                          go_wp2
                          go_meet
                          case rel =>
                            refine ⟨?_, HA, HB8⟩
                            have hq := HQ.out
                            rw [HB9.out]
                            simp [rfitH, rfit, HNX.out, hq]
                      · have e4 : ((G.f4.length : Int) == a0_0 * a0_0) = false := beq_eq_false_iff_ne.mpr d4
                        have HQ := Aside0.mk (And.intro d0 (And.intro d1 (And.intro d2 (And.intro d3 d4))))
                        clear d0 d1 d2 d3 d4
                        go_wp2
                        go_meet
                        case rel =>
                          refine ⟨?_, HA, HB8⟩
                          have hq := HQ.out
                          rw [HB9.out]
                          simp [rfitH, rfit, HNX.out, hq]
                    · have e3 : ((G.f3.length : Int) == a0_0 * a0_0) = false := beq_eq_false_iff_ne.mpr d3
                      have HQ := Aside0.mk (And.intro d0 (And.intro d1 (And.intro d2 d3)))
                      clear d0 d1 d2 d3
                      go_wp2
                      go_meet
                      case rel =>
                        refine ⟨?_, HA, HB8⟩
                        have hq := HQ.out
                        rw [HB9.out]
                        simp [rfitH, rfit, HNX.out, hq]
                  · have e2 : ((G.f2.length : Int) == a0_0 * a0_0) = false := beq_eq_false_iff_ne.mpr d2
                    have HQ := Aside0.mk (And.intro d0 (And.intro d1 d2))
                    clear d0 d1 d2
                    go_wp2
                    go_meet
                    case rel =>
                      refine ⟨?_, HA, HB8⟩
                      have hq := HQ.out
                      rw [HB9.out]
                      simp [rfitH, rfit, HNX.out, hq]
                · have e1 : ((G.f1.length : Int) == a0_0 * a0_0) = false := beq_eq_false_iff_ne.mpr d1
                  have HQ := Aside0.mk (And.intro d0 d1)
                  clear d0 d1
                  go_wp2
                  go_meet
                  case rel =>
                    refine ⟨?_, HA, HB8⟩
                    have hq := HQ.out
                    rw [HB9.out]
                    simp [rfitH, rfit, HNX.out, hq]
              · have e0 : ((G.f0.length : Int) == a0_0) = false := beq_eq_false_iff_ne.mpr d0
                have HQ := Aside0.mk (d0)
                clear d0
                go_wp2
                go_meet
                case rel =>
                  refine ⟨?_, HA, HB8⟩
                  have hq := HQ.out
                  rw [HB9.out]
                  simp [rfitH, rfit, HNX.out, hq]
            case rest =>
              obtain ⟨rfl, HA2, HB82⟩ := hcut
              clear HA HB8
              have HA := HA2
              have HB8 := HB82
              clear HA2 HB82
              go_wp2
              go_loopg [5, 9] nx.toNat (fun kq v5 v9 wr2 => ∃ (j : Nat) (b : Bool), v5 = .bool b ∧ v9 = .int .i64 (j : Int) ∧ j + kq = nx.toNat ∧ Aside0 (b = (b9 && (List.range j).all (rfitU a0_0 a0_4 G))) ∧ Aside0 (CkTwo w w.heap.size (w.heap.size + 1) 29 23 #[.int .i64 a0_0, .int .i64 a0_1, .int .i64 a0_2, .int .i64 a0_3, .int .i64 a0_4, .int .i64 a0_5, .int .i64 a0_6, .int .i64 a0_7, .slice A0_8 l0_8.length c0_8, .slice (some ad) l0_9.length c0_9, .slice A0_10 l0_10.length c0_10, .slice A0_11 l0_11.length c0_11] #[.int .i64 a0_0, .int .i64 a0_1, .int .i64 a0_2, .int .i64 a0_3, .int .i64 a0_4, .int .i64 a0_5, .int .i64 a0_6, .int .i64 a0_7] wr2) ∧ Aside0 (wr2.heap[g8]? = some (.cells #[.slice X0 G.f0.length y0, .slice X1 G.f1.length y1, .slice X2 G.f2.length y2, .slice X3 G.f3.length y3, .slice X4 G.f4.length y4, .slice X5 G.f5.length y5, .slice X6 G.f6.length y6, .slice X7 G.f7.length y7, .slice X8 G.f8.length y8] 59 (0, 0))))
              case atStart => exact ⟨0, b9, rfl, rfl, by omega, ⟨by simp⟩, HA, HB8⟩
              case round =>
                obtain ⟨j, b, rfl, rfl, hjk, HF2, HI2, HB2⟩ := hrel
                clear HB8 HA
                have HI := HI2
                have HB8 := HB2
                clear HI2 HB2
                cases b with
                | false =>
                  have HG : Aside0 (rfitL a0_0 a0_4 a0_5 G = false) := ⟨by
                    have h : ¬ rfitL a0_0 a0_4 a0_5 G = true := by
                      intro h
                      have h2 := Bool.and_eq_true_iff.1 h
                      rw [HNX.out, ← HB9.out] at h2
                      have h3 : (List.range j).all (rfitU a0_0 a0_4 G) = true := by
                        have h4 := h2.2
                        rw [List.all_eq_true] at h4 ⊢
                        exact fun x hx => h4 x (List.mem_range.2 (by have := List.mem_range.1 hx; omega))
                      have h5 := HF2.out
                      rw [h3, h2.1] at h5
                      exact absurd h5 (by simp)
                    simpa using h⟩
                  by_cases cj : (j : Int) < nx
                  · have cb : decide ((j : Int) < nx) = true := decide_eq_true cj
                    go_wp2
                    go_roundg (l0_9.length - i - 1)
                    case measure => omega
                    case rel =>
                      refine ⟨i + 1, false, by simp, rfl, by omega, ⟨?_⟩, HI⟩
                      have h := HF.out
                      rw [HTK.out, List.all_append, ← Bool.and_assoc, ← h, List.all_cons, List.all_nil, HG.out]
                      rfl

                  · have cb : decide ((j : Int) < nx) = false := decide_eq_false cj
                    go_wp2
                    go_roundg (l0_9.length - i - 1)
                    case measure => omega
                    case rel =>
                      refine ⟨i + 1, false, by simp, rfl, by omega, ⟨?_⟩, HI⟩
                      have h := HF.out
                      rw [HTK.out, List.all_append, ← Bool.and_assoc, ← h, List.all_cons, List.all_nil, HG.out]
                      rfl

                | true =>
                  by_cases cj : (j : Int) < nx
                  · have cb : decide ((j : Int) < nx) = true := decide_eq_true cj
                    have hc4 : wr.cell? ⟨w.heap.size + 1, 4, none⟩ = some (.int .i64 a0_4) := (blk_cell HI.out.b2 4).trans rfl
                    have hz7 : wr.cell? ⟨g8, 7, none⟩ = some (.slice X7 G.f7.length y7) := (blk_cell HB8.out 7).trans rfl
                    have hz8 : wr.cell? ⟨g8, 8, none⟩ = some (.slice X8 G.f8.length y8) := (blk_cell HB8.out 8).trans rfl
                    have hl78 : (G.f7.length : Int) = nx ∧ (G.f8.length : Int) = nx := by
                      have h := HF2.out.symm
                      rw [Bool.and_eq_true, HB9.out] at h
                      have h1 := h.1
                      simp only [rfitH, Bool.and_eq_true, decide_eq_true_eq, HNX.out] at h1
                      exact ⟨h1.2.2.2.2.2.2.2.1, h1.2.2.2.2.2.2.2.2⟩
                    obtain ⟨ad7, U7, u7, e7_, hx7, _, _⟩ := at_row HG7.out j (by omega)
                    obtain ⟨ad8, U8, u8, e8_, hx8, _, _⟩ := at_row HG8.out j (by omega)
                    cases e7_
                    cases e8_
                    replace hx7 := (HI.out.bl.cell (World.block_lt_of_cell? w _ hx7)).trans hx7
                    replace hx8 := (HI.out.bl.cell (World.block_lt_of_cell? w _ hx8)).trans hx8
                    obtain ⟨r7, hr7⟩ : ∃ r, G.f7.getD j [] = r := ⟨_, rfl⟩
                    obtain ⟨r8, hr8⟩ : ∃ r, G.f8.getD j [] = r := ⟨_, rfl⟩
                    rw [hr7] at hx7
                    rw [hr8] at hx8
                    have HR7 := Aside0.mk hr7
                    have HR8 := Aside0.mk hr8
                    clear hr7 hr8
                    have cp := eq_true (show 0 ≤ (j : Int) by omega)
                    have cq7 := eq_true (show (j : Int) < (G.f7.length : Int) by omega)
                    have cq8 := eq_true (show (j : Int) < (G.f8.length : Int) by omega)
                    clear hl78
                    have HRJ : Aside0 ((b9 && (List.range (j + 1)).all (rfitU a0_0 a0_4 G)) = rfitU a0_0 a0_4 G j) := ⟨by rw [List.range_succ, List.all_append, ← Bool.and_assoc, ← HF2.out]; simp⟩
                    by_cases k7 : ((r7).length : Int) = a0_4 * a0_0
                    · have q7 : (((r7).length : Int) == a0_4 * a0_0) = true := beq_iff_eq.mpr k7
                      have q7w : (((r7).length : Int) == IntKind.i64.wrap (a0_4 * a0_0)) = true := by rw [i64_w, w40]; exact q7
                      by_cases k8 : ((r8).length : Int) = a0_0 * a0_4
                      · have q8 : (((r8).length : Int) == a0_0 * a0_4) = true := beq_iff_eq.mpr k8
                        have q8w : (((r8).length : Int) == IntKind.i64.wrap (a0_0 * a0_4)) = true := by rw [i64_w, w04]; exact q8
                        have HK := Aside0.mk (And.intro k7 k8)
                        clear k7 k8
                        go_wp2
                        repeat (go_quiet (fail); try go_wp2)
                        go_roundg (nx.toNat - j - 1)
                        case measure => omega
                        case rel =>
                          refine ⟨j + 1, true, rfl, by simp, by omega, ⟨?_⟩, ⟨by first | exact HI.out | exact HI.out.drewN _⟩, ⟨by first | exact HB8.out | exact blk_drewN HB8.out _⟩⟩
                          have hk8 := HK.out.2
                          have hk7 := HK.out.1
                          rw [← HR7.out] at hk7
                          rw [← HR8.out] at hk8
                          rw [Int.mul_comm] at hk8
                          rw [HRJ.out]
                          simp only [rfitU, rfit, hk7, hk8, decide_true, Bool.and_self]
                      · have q8 : (((r8).length : Int) == a0_0 * a0_4) = false := beq_eq_false_iff_ne.mpr k8
                        have q8w : (((r8).length : Int) == IntKind.i64.wrap (a0_0 * a0_4)) = false := by rw [i64_w, w04]; exact q8
                        have HK := Aside0.mk k8
                        clear k7 k8
                        go_wp2
                        repeat (go_quiet (fail); try go_wp2)
                        go_roundg (nx.toNat - j - 1)
                        case measure => omega
                        case rel =>
                          refine ⟨j + 1, false, rfl, by simp, by omega, ⟨?_⟩, ⟨by first | exact HI.out | exact HI.out.drewN _⟩, ⟨by first | exact HB8.out | exact blk_drewN HB8.out _⟩⟩
                          have hk8 := HK.out
                          rw [← HR8.out] at hk8
                          rw [Int.mul_comm] at hk8
                          rw [HRJ.out]
                          simp only [rfitU, rfit, hk8, decide_false, Bool.and_false]
                    · have q7 : (((r7).length : Int) == a0_4 * a0_0) = false := beq_eq_false_iff_ne.mpr k7
                      have q7w : (((r7).length : Int) == IntKind.i64.wrap (a0_4 * a0_0)) = false := by rw [i64_w, w40]; exact q7
                      have HK := Aside0.mk k7
                      clear k7
                      go_wp2
                      repeat (go_quiet (fail); try go_wp2)
                      go_roundg (nx.toNat - j - 1)
                      case measure => omega
                      case rel =>
                        refine ⟨j + 1, false, rfl, by simp, by omega, ⟨?_⟩, ⟨by first | exact HI.out | exact HI.out.drewN _⟩, ⟨by first | exact HB8.out | exact blk_drewN HB8.out _⟩⟩
                        have hk7 := HK.out
                        rw [← HR7.out] at hk7
                        rw [HRJ.out]
                        simp only [rfitU, rfit, hk7, decide_false, Bool.false_and]
                  · have cb : decide ((j : Int) < nx) = false := decide_eq_false cj
                    have HG : Aside0 (rfitL a0_0 a0_4 a0_5 G = true) := ⟨by
                      have hj : j = nx.toNat := by omega
                      have h2 := HF2.out.symm
                      rw [hj, HB9.out] at h2
                      simp only [rfitL, HNX.out]
                      exact h2⟩
                    go_wp2
                    go_roundg (l0_9.length - i - 1)
                    case measure => omega
                    case rel =>
                      refine ⟨i + 1, true, by simp, rfl, by omega, ⟨?_⟩, HI⟩
                      have h := HF.out
                      rw [HTK.out, List.all_append, ← Bool.and_assoc, ← h, List.all_cons, List.all_nil, HG.out]
                      rfl
          · have cb : decide ((i : Int) < (l0_9.length : Int)) = false := decide_eq_false (by omega)
            obtain rfl : i = l0_9.length := by omega
            have hM : Aside0 (rfitM a0_0 a0_2 a0_3 a0_4 a0_5 l0_8 l0_9 l0_10 l0_11 = true) := ⟨by
              have hF := HF.out
              rw [List.take_length, HB0.out] at hF
              exact hF.symm⟩
            go_wp2
            go_ret
            refine ⟨?_, HI.out.bl⟩
            rw [HW.out, if_pos hM.out]
            rfl

end Go.Proofs.Ytdlinhegmplgiaa.PCkptChecks
