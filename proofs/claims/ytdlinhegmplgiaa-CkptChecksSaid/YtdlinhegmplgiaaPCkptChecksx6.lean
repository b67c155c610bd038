/- A text of the session: functions of the program and their walks, laid by a program of its own (wip/tools/mkprint.py) over the translation. No condition. -/
import Derived.Test.YtdlinhegmplgiaaPCkptChecksx0
import Derived.Test.YtdlinhegmplgiaaPCkptChecksx5
namespace Go.Proofs.Ytdlinhegmplgiaa.PCkptChecks
open Go.RowKit Go.Proofs.YtdlinhegmplgiaaW.PrintWords Go.Proofs.YtdlinhegmplgiaaW.PrintLast Go.Proofs.YtdlinhegmplgiaaW.PrintMore
attribute [local go_sem] max2_int min2_int max_two min_two max_three min_three max_four min_four   -- for this text's walks alone
set_option linter.unusedVariables false
set_option linter.unusedSimpArgs false

/-! ### ckpt_Flat: function 19 -/
set_option maxHeartbeats 8000000 in
set_option maxRecDepth 100000 in
theorem ckpt_Flat_1.calls (g b o base : Nat) (A : Option Addr) (ys xs : List Int) (c : Nat) (n : Int) (v : Value) (w : World) (hg : w.heap[g]? = some (.cells #[v] 26 (0, 0))) (hp : w.cell? ⟨b, o, none⟩ = some (.slice A ys.length c)) (hy : (Kd.int .i8).C w A ys.length ys) (hR : Kd.R (Kd.int .i8) 46 w base (fun _ => True) v xs) (hbs : base ≤ w.heap.size) (hbb : b < base) (hgb : g < base) (hne : b ≠ g) (hl : (xs.length + ys.length) * 1 ≤ 140737488355328) :
    Calls Try.prog 43 #[.pointer (some ⟨b, o, none⟩), .int .i64 n, .pointer (some ⟨g, 0, none⟩)] w fun e w' => (∃ u, e = .returned u) ∧ ∃ v1 w1, w' = w1.setCell ⟨g, 0, none⟩ v1 ∧ w1.heap[g]? = some (.cells #[v] 26 (0, 0)) ∧ Kd.R (Kd.int .i8) 46 w1 base (fun _ => True) v1 (xs ++ ys) ∧ Below base w w1 := by
  obtain ⟨Av, cv, rfl⟩ := Kd.R_slice hR
  go_enter Try.func43, Try.ntmps43
  go_wp2
  have h0 := Aside0.mk hg
  have h1 := Aside0.mk hy
  have h2 := Aside0.mk hR
  have h3 := Aside0.mk hl
  clear hg hy hR hl
  refine start_ (n := 6) (S := fun w' => w'.cell? ⟨b, o, none⟩ = some (.slice A ys.length c)) (ds := []) #[false, false, false, false, false, false] (by kernel_rfl) rfl rfl hp (fun hHeld => ?_)
  clear hp
  refine pure_ (i := 1) (N := some 6) (v := ?_) (a' := ?_) #[false, true, false, false, false, false] rfl rfl (by kernel_rfl) (fun _ _ _ h => h) (Or.inl ⟨by rfl, ?_⟩) ?_ ?_
  rotate_left
  · intro w'
    go_simp
    with_reducible rfl
  rotate_left
  · simp only [Act.put, List.setIfInBounds_toArray, List.set_cons_zero, List.set_cons_succ, i64_w, i32_w]
    rfl
  refine pure_ (i := 2) (N := some 7) (v := ?_) (a' := ?_) #[false, true, true, false, false, false] rfl rfl (by kernel_rfl) (fun _ _ _ h => h) (Or.inl ⟨by rfl, ?_⟩) ?_ ?_
  rotate_left
  · intro w'
    go_simp
    with_reducible rfl
  rotate_left
  · simp only [Act.put, List.setIfInBounds_toArray, List.set_cons_zero, List.set_cons_succ, i64_w, i32_w]
    rfl
  refine take_ (i := 3) (N := some 8) (v := ?_) (a' := ?_) #[false, true, true, true, false, false] rfl rfl (by kernel_rfl) (fun _ _ _ h => h) (Or.inl ⟨by rfl, ?_⟩) hHeld ?_ ?_
  rotate_left
  · intro w' s0
    go_simp
    with_reducible rfl
  rotate_left
  · simp only [Act.put, List.setIfInBounds_toArray, List.set_cons_zero, List.set_cons_succ, i64_w, i32_w]
    rfl
  have hxg : w.drew.cell? ⟨g, 0, none⟩ = some (.slice Av xs.length cv) := (blk_cell (w := w.drew) h0.out 0).trans rfl
  have h4 := Aside0.mk (below_drew1 (Below.refl w.heap.size w))
  have hR2 := Aside0.mk (Kd.R_below h2.out h4.out)
  have hC2 := Aside0.mk (Kd.C_below h1.out h4.out)
  refine one_ (i := 0) (N := some 5) #[true, true, true, true, false, false] rfl rfl (by kernel_rfl) (by decide) (fun K hK => ?_)
  refine value_ (v := .slice Av xs.length cv) (w1 := w.drew) (by rfl) rfl (by first | (go_simp; done) | (go_simp; rfl)) ?_
  refine hK.out _ _ hHeld (fun _ => ?_)
  clear hK K
  refine norm_ (a' := ?_) ?_ ?_
  rotate_left
  · show Act.put _ (some 5) _ = _
    simp only [Act.put, List.setIfInBounds_toArray, List.set_cons_zero, List.set_cons_succ, i64_w, i32_w]
    rfl
  refine one_ (i := 4) (N := some 9) #[true, true, true, true, true, false] rfl rfl (by kernel_rfl) (by decide) (fun K hK => ?_)
  refine Kd.R_append_rows_step (Kd.int .i8) (w0 := w.drew) base (by rfl) (.tmp 5) (.tmp 8) 26 46 (.int .i8 0) 1 rfl Try.underlying26 info46 rfl (by decide) (by omega) (.slice Av xs.length cv) xs ys A ys.length c (fun _ => True) (fun _ => False) rfl rfl hR2.out hC2.out (fun _ _ h => h) (fun _ h => h.elim) (fun _ _ => trivial) (Below.refl _ _) hbs h3.out ?_
  intro v1 w1 hr1 hb1 hgr1 _
  have hHeld1 : w1.cell? ⟨b, o, none⟩ = some (.slice A ys.length c) := (hb1.cell (p := ⟨b, o, none⟩) hbb).trans hHeld
  have hg1 : w1.heap[g]? = some (.cells #[.slice Av xs.length cv] 26 (0, 0)) := (hb1.block g hgb).trans h0.out
  obtain ⟨A1, c1, rfl⟩ := Kd.R_slice hr1
  generalize (xs ++ ys).length = m1 at hr1 ⊢
  refine hK.out _ _ hHeld1 (fun _ => ?_)
  clear hK K
  refine norm_ (a' := ?_) ?_ ?_
  rotate_left
  · show Act.put _ (some 9) _ = _
    simp only [Act.put, List.setIfInBounds_toArray, List.set_cons_zero, List.set_cons_succ, i64_w, i32_w]
    rfl
  have hst := run_store_run (P := Try.prog) (o := 0) 26 (.slice A1 m1 c1) [.slice A1 m1 c1] hg1 rfl (by kernel_rfl) (by simp) (by simp [Value.oneCell'])
  refine one_ (i := 5) (N := none) #[true, true, true, true, true, true] rfl rfl (by kernel_rfl) (by decide) (fun K hK => ?_)
  refine skip_ (w1 := w1.setCells g 0 [.slice A1 m1 c1]) (by rfl) rfl (by simp [execOp, Act.eval, hst]) ?_
  refine hK.out _ _ ((cell_heap (setCells_far [.slice A1 m1 c1] 0 (w := w1) b (g := g) hne)).trans hHeld1) (fun _ => ?_)
  clear hK K
  refine done_ (by kernel_rfl) ?_
  go_end0
  exact ⟨⟨_, rfl⟩, _, w1, rfl, hg1, hr1, (below_drew1 (Below.refl base w)).trans hb1⟩
theorem C_of_CkV {w wv : World} {g : Nat} {c : Array Value} {W : World} {A : Option Addr} {l : List Int} {X : Option Addr} {n m : Nat} (h : (Kd.int .i8).C wv A l.length l) (hv : CkV w wv g c W) (hgv : wv.heap[g]? = some (.cells #[.slice X n m] 26 (0, 0))) : (Kd.int .i8).C W A l.length l := by
  obtain ⟨h1, h2, h3⟩ := h
  refine ⟨h1, h2, fun hn => ?_⟩
  obtain ⟨ad, e, hc⟩ := h3 hn
  refine ⟨ad, e, fun j p hj => ?_⟩
  obtain ⟨cs, hs, hr, hcell⟩ := hc j p hj
  refine ⟨cs, hs, hr, fun i u hu => ?_⟩
  have h4 := hcell i u hu
  have hr2 : cs = [.int .i8 p] := hr
  refine hv.cell h4 (fun eb => ?_)
  have h5 := addr_eta h4
  rw [h5, eb] at h4
  rw [blk_cell hgv] at h4
  rw [hr2] at hu
  rcases i with _ | i
  · simp at hu
    subst hu
    rcases ho : (ad.add (j * (Kd.int .i8).sz + 0)).off with _ | q
    · rw [ho] at h4; simp at h4
    · rw [ho] at h4; simp at h4
  · simp at hu
theorem sizes_le {c0 c2 c3 c4 c5 : Int} (h : rngM c0 c2 c3 c4 c5 = true) {n k : Nat} : ∀ z ∈ sizesM n k c0 c3 c4 c5, z ≤ 128 := by
  simp only [rngM, decide_eq_true_eq] at h
  have m : ∀ a b : Int, 0 ≤ a → a ≤ 16 → 0 ≤ b → b ≤ 8 → a * b ≤ 128 := fun a b h0 h1 h2 h3 => by
    have h4 : a * b ≤ 16 * 8 := Int.mul_le_mul h1 h3 h2 (by decide)
    omega
  have m30 := m c3 c0 (by omega) (by omega) (by omega) (by omega)
  have m00 := m c0 c0 (by omega) (by omega) (by omega) (by omega)
  have m50 := m c5 c0 (by omega) (by omega) (by omega) (by omega)
  have m40 := m c4 c0 (by omega) (by omega) (by omega) (by omega)
  intro z hz
  simp only [sizesM, sizesL, List.mem_append, List.mem_flatMap, List.mem_cons, List.not_mem_nil, or_false] at hz
  rcases hz with ((rfl | ⟨_, _, hz⟩) | rfl) | rfl
  · omega
  · rcases hz with hz | ⟨_, _, hz⟩
    · rcases hz with rfl | rfl | rfl | rfl | rfl | rfl | rfl <;> omega
    · rcases hz with rfl | rfl <;> omega
  · omega
  · omega
theorem rows_le {c0 c2 c3 c4 c5 : Int} (h : rngM c0 c2 c3 c4 c5 = true) {n k : Nat} {R : List (List Int)} (hR : R.map (fun l => (l.length : Int)) = sizesM n k c0 c3 c4 c5) : ∀ r ∈ R, r.length ≤ 128 := by
  intro r hr
  have h1 : (r.length : Int) ∈ R.map (fun l => (l.length : Int)) := List.mem_map.2 ⟨r, hr, rfl⟩
  rw [hR] at h1
  have := sizes_le h _ h1
  omega
theorem chk_zero {k : Nat} {a0_0 a0_1 a0_2 a0_3 a0_4 a0_5 a0_6 a0_7 : Int} {l0_8 : List Int} {l0_9 : List S59} {l0_10 l0_11 : List Int} (h : ckpt_Check.f k a0_0 a0_1 a0_2 a0_3 a0_4 a0_5 a0_6 a0_7 l0_8 l0_9 l0_10 l0_11 = some 0) : rngM a0_0 a0_2 a0_3 a0_4 a0_5 = true ∧ fitM a0_0 a0_2 a0_3 a0_4 a0_5 l0_8 l0_9 l0_10 l0_11 = true := by
  unfold ckpt_Check.f at h
  obtain ⟨t, _, h⟩ := Option.bind_eq_some_iff.mp h
  cases t with
  | false => simp at h
  | true =>
    rw [if_pos rfl] at h
    by_cases hr : rngM a0_0 a0_2 a0_3 a0_4 a0_5 = true
    · rw [if_pos hr] at h
      by_cases hf : fitM a0_0 a0_2 a0_3 a0_4 a0_5 l0_8 l0_9 l0_10 l0_11 = true
      · exact ⟨hr, hf⟩
      · rw [if_neg hf] at h; simp at h
    · rw [if_neg hr] at h; simp at h
set_option maxHeartbeats 8000000 in
theorem ckpt_Flat_visit (a0_0 : Int) (a0_1 : Int) (a0_2 : Int) (a0_3 : Int) (a0_4 : Int) (a0_5 : Int) (a0_6 : Int) (a0_7 : Int) (A0_8 : Option Addr) (c0_8 : Nat) (l0_8 : List Int) (A0_9 : Option Addr) (c0_9 : Nat) (l0_9 : List S59) (A0_10 : Option Addr) (c0_10 : Nat) (l0_10 : List Int) (A0_11 : Option Addr) (c0_11 : Nat) (l0_11 : List Int) (w wv : World) (g : Nat) (hr0_8 : Kd.C (Kd.int .i8) w A0_8 l0_8.length l0_8) (hr0_9 : Kd.C k59 w A0_9 l0_9.length l0_9) (hr0_10 : Kd.C (Kd.int .i8) w A0_10 l0_10.length l0_10) (hr0_11 : Kd.C (Kd.int .i8) w A0_11 l0_11.length l0_11)
    (hI : CkTwo w w.heap.size g 29 26 #[.int .i64 a0_0, .int .i64 a0_1, .int .i64 a0_2, .int .i64 a0_3, .int .i64 a0_4, .int .i64 a0_5, .int .i64 a0_6, .int .i64 a0_7, .slice A0_8 l0_8.length c0_8, .slice A0_9 l0_9.length c0_9, .slice A0_10 l0_10.length c0_10, .slice A0_11 l0_11.length c0_11] #[.slice none 0 0] wv) (hrn : rngM a0_0 a0_2 a0_3 a0_4 a0_5 = true) (hfit : fitM a0_0 a0_2 a0_3 a0_4 a0_5 l0_8 l0_9 l0_10 l0_11 = true) :
    Calls Try.prog 30 #[.pointer (some ⟨w.heap.size, 0, none⟩), .func (.func 43) #[] #[.pointer (some ⟨g, 0, none⟩)]] wv fun e w' => (∃ u, e = .returned u) ∧ ∃ v, CkTwo w w.heap.size g 29 26 #[.int .i64 a0_0, .int .i64 a0_1, .int .i64 a0_2, .int .i64 a0_3, .int .i64 a0_4, .int .i64 a0_5, .int .i64 a0_6, .int .i64 a0_7, .slice A0_8 l0_8.length c0_8, .slice A0_9 l0_9.length c0_9, .slice A0_10 l0_10.length c0_10, .slice A0_11 l0_11.length c0_11] #[v] w' ∧ Kd.R (Kd.int .i8) 46 w' (wv.heap.size + 1) (fun _ => True) v ((rowsM (mx a0_5 1).toNat l0_8 l0_9 l0_10 l0_11).flatMap id) := by
  simp only [fitM, Bool.and_eq_true, decide_eq_true_eq] at hfit
  obtain ⟨hlen, hU, hrows⟩ := hfit
  obtain ⟨hk0, hk4, hkx⟩ := rng_k hrn
  have hrn2 := hrn
  simp only [rngM, decide_eq_true_eq] at hrn2
  have hgs : g < wv.heap.size := blk_lt hI.b2
  have R9 := hr0_9
  obtain ⟨ad, hA, _⟩ := R9.2.2 (by omega)
  have x9 : wv.cell? ⟨w.heap.size, 9, none⟩ = some (.slice A0_9 l0_9.length c0_9) := (blk_cell hI.b1 9).trans rfl
  have x8 : wv.cell? ⟨w.heap.size, 8, none⟩ = some (.slice A0_8 l0_8.length c0_8) := (blk_cell hI.b1 8).trans rfl
  have x10 : wv.cell? ⟨w.heap.size, 10, none⟩ = some (.slice A0_10 l0_10.length c0_10) := (blk_cell hI.b1 10).trans rfl
  have x11 : wv.cell? ⟨w.heap.size, 11, none⟩ = some (.slice A0_11 l0_11.length c0_11) := (blk_cell hI.b1 11).trans rfl
  subst hA
  have had : ad = ⟨ad.block, ad.off, none⟩ := by
    obtain ⟨a_, _, _, _, _, _, _, _, _, _, _, _, _, _, _, _, _, _, _, e_, h0, _⟩ := at_T59 R9 ((0 : Nat) : Int) (by omega) (by omega)
    obtain rfl := Option.some.inj e_
    rw [Int.toNat_natCast, Nat.zero_mul, Addr.add, if_pos rfl] at h0
    exact addr_eta h0
  obtain ⟨bl, ol, sp⟩ := ad
  simp only [Addr.mk.injEq, true_and] at had
  subst had
  have hLay := lay_at hk0 R9 (fitU_all hkx hU)
  have HS := ck_visits (w := w) (wv := wv) (g := g) (bm := w.heap.size) (bl := bl) (ol := ol) (cl := c0_9) (n := l0_9.length) (c := #[.int .i64 a0_0, .int .i64 a0_1, .int .i64 a0_2, .int .i64 a0_3, .int .i64 a0_4, .int .i64 a0_5, .int .i64 a0_6, .int .i64 a0_7]) (L := l0_9) (e := l0_8) (nn := l0_10) (o := l0_11) 43 #[.pointer (some ⟨g, 0, none⟩)]
    (fun T W => ∃ v, W.heap[g]? = some (.cells #[v] 26 (0, 0)) ∧ Kd.R (Kd.int .i8) 46 W (wv.heap.size + 1) (fun _ => True) v (T.flatMap fun px => contAt wv px.1) ∧ (T.flatMap fun px => contAt wv px.1).length ≤ T.length * 128) (fun r => r.length ≤ 128) hI.bl (Nat.ne_of_lt hI.ord2) (Nat.le_of_lt hI.ord2) (rows_le hrn hrows) ⟨_, _, x8, Kd.C_below hr0_8 hI.bl⟩ x9 ⟨_, _, x10, Kd.C_below hr0_10 hI.bl⟩ ⟨_, _, x11, Kd.C_below hr0_11 hI.bl⟩ rfl hLay
    (fun T W h => by obtain ⟨v, a, b, c⟩ := h; exact ⟨v, a, Kd.R_below b (below_drew1 (Below.refl _ _)), c⟩)
    (fun T W m h => by obtain ⟨v, a, b, c⟩ := h; exact ⟨v, a, Kd.R_below b (pw_below_drewN (Below.refl _ _) m), c⟩)
    (fun T p x W A l q hp hC hok hpb hT hv hj => by
      obtain ⟨v, h1, h2, h3⟩ := hj
      have hc := hv.cell hp hpb
      have he := addr_eta hp
      have hpl : p.block < wv.heap.size := World.block_lt_of_cell? wv _ hp
      rw [he] at hc ⊢
      have hsz : wv.heap.size + 1 ≤ W.heap.size := by have := blk_lt hv.hc; omega
      refine (ckpt_Flat_1.calls g p.block p.off (wv.heap.size + 1) A l _ q x v W h1 hc (C_of_CkV hC hv hI.b2) h2 hsz (by omega) (by omega) hpb (by omega)).mono fun e w' hh => ?_
      obtain ⟨hu, v1, w1, rfl, k1, k2, k3⟩ := hh
      have hv1 : CkV w wv g #[.int .i64 a0_0, .int .i64 a0_1, .int .i64 a0_2, .int .i64 a0_3, .int .i64 a0_4, .int .i64 a0_5, .int .i64 a0_6, .int .i64 a0_7] w1 := ⟨(k3.block _ (by omega)).trans hv.hc, fun j a b => (k3.block j (by omega)).trans (hv.old j a b), hv.bl.trans ⟨k3.os, k3.tape, k3.output, k3.size, fun i hi => k3.block i (by have := hI.ord2; omega)⟩⟩
      refine ⟨hu, hv1.set hgs (Nat.le_of_lt hI.ord2) 0 v1, v1, blk_set k1 0 v1, ?_, ?_⟩
      · rw [List.flatMap_append, List.flatMap_cons, List.flatMap_nil, List.append_nil, ← he, contAt_of hp hC]
        exact Kd.R_set k2 k1 (by decide) 0 v1
      · rw [List.flatMap_append, List.flatMap_cons, List.flatMap_nil, List.append_nil, ← he, contAt_of hp hC, List.length_append, List.length_append]
        simp only [List.length_cons, List.length_nil]
        omega)
  have hall := ckpt_visit.all 43 Try.f43 #[.pointer (some ⟨g, 0, none⟩)] Try.func43 (by kernel_rfl) rfl w.heap.size bl ol c0_9 l0_9.length (mx a0_5 1).toNat _ _ _ _ _ _ a0_0 a0_1 a0_2 a0_3 a0_4 a0_5 a0_6 a0_7 (.slice A0_8 l0_8.length c0_8) (.slice A0_10 l0_10.length c0_10) (.slice A0_11 l0_11.length c0_11) wv (by omega) hk4 ⟨rng_mul (by omega) (by omega) (by omega) (by omega)⟩ ⟨rng_mul (by omega) (by omega) (by omega) (by omega)⟩ ⟨rng_mul (by omega) (by omega) (by omega) (by omega)⟩ ⟨rng_mul (by omega) (by omega) (by omega) (by omega)⟩ _ hI.b1 (CkPt wv g (fun r => r.length ≤ 128)) HS ⟨CkV.start hI.bl g _, _, blk_alloc hI.b2 _, Kd.R_nil _ _ _ _ _, by simp⟩
  refine hall.mono fun e w' hh => ?_
  obtain ⟨hu, hv, v, j1, j2, _⟩ := hh
  have hrow := visit_rows (w := wv) (bm := w.heap.size) a0_0 a0_3 a0_4 a0_5 (contAt_of x8 (Kd.C_below hr0_8 hI.bl)) (contAt_of x10 (Kd.C_below hr0_10 hI.bl)) (contAt_of x11 (Kd.C_below hr0_11 hI.bl)) (fun i hi => (hLay i hi).below hI.bl)
  refine ⟨hu, v, ⟨(hv.old _ (blk_lt hI.b1) (Nat.ne_of_lt hI.ord2)).trans hI.b1, j1, hv.bl, hI.ord, hI.ord2⟩, ?_⟩
  rw [← hrow, List.flatMap_map]
  exact j2
def ckpt_Flat.f (k : Nat) (a0_0 : Int) (a0_1 : Int) (a0_2 : Int) (a0_3 : Int) (a0_4 : Int) (a0_5 : Int) (a0_6 : Int) (a0_7 : Int) (l0_8 : List Int) (l0_9 : List S59) (l0_10 : List Int) (l0_11 : List Int) : Option (List Int) := (ckpt_Check.f k a0_0 a0_1 a0_2 a0_3 a0_4 a0_5 a0_6 a0_7 l0_8 l0_9 l0_10 l0_11).bind fun t => (if t = 0 then (some ((rowsM (mx a0_5 1).toNat l0_8 l0_9 l0_10 l0_11).flatMap id)) else (some []))
theorem ckpt_Flat.mono : ∀ a0 a1 a2 a3 a4 a5 a6 a7 a8 a9 a10 a11 k, LeO (ckpt_Flat.f k a0 a1 a2 a3 a4 a5 a6 a7 a8 a9 a10 a11) (ckpt_Flat.f (k + 1) a0 a1 a2 a3 a4 a5 a6 a7 a8 a9 a10 a11) := by
  intro a0 a1 a2 a3 a4 a5 a6 a7 a8 a9 a10 a11 k
  unfold ckpt_Flat.f
  repeat' first
      | (with_reducible exact LeO.refl _)
      | (with_reducible exact LeO.none _)
      | (with_reducible refine LeO.ite ?_ ?_)
      | (with_reducible exact ckpt_Check.mono _ _ _ _ _ _ _ _ _ _ _ _ _)
      | (with_reducible refine LeO.bind ?_ (fun _ => ?_))
set_option maxHeartbeats 8000000 in
set_option maxRecDepth 100000 in
theorem ckpt_Flat.calls (k : Nat) (a0_0 : Int) (a0_1 : Int) (a0_2 : Int) (a0_3 : Int) (a0_4 : Int) (a0_5 : Int) (a0_6 : Int) (a0_7 : Int) (A0_8 : Option Addr) (c0_8 : Nat) (l0_8 : List Int) (A0_9 : Option Addr) (c0_9 : Nat) (l0_9 : List S59) (A0_10 : Option Addr) (c0_10 : Nat) (l0_10 : List Int) (A0_11 : Option Addr) (c0_11 : Nat) (l0_11 : List Int) (r : List Int) (w : World) (hr0_8 : Kd.C (Kd.int .i8) w A0_8 l0_8.length l0_8) (hc0_8 : l0_8.length ≤ c0_8) (hr0_9 : Kd.C k59 w A0_9 l0_9.length l0_9) (hc0_9 : l0_9.length ≤ c0_9) (hr0_10 : Kd.C (Kd.int .i8) w A0_10 l0_10.length l0_10) (hc0_10 : l0_10.length ≤ c0_10) (hr0_11 : Kd.C (Kd.int .i8) w A0_11 l0_11.length l0_11) (hc0_11 : l0_11.length ≤ c0_11) (h : ckpt_Flat.f k a0_0 a0_1 a0_2 a0_3 a0_4 a0_5 a0_6 a0_7 l0_8 l0_9 l0_10 l0_11 = some r) :
    Calls Try.prog 19 #[.agg #[.int .i64 a0_0, .int .i64 a0_1, .int .i64 a0_2, .int .i64 a0_3, .int .i64 a0_4, .int .i64 a0_5, .int .i64 a0_6, .int .i64 a0_7, .slice A0_8 l0_8.length c0_8, .slice A0_9 l0_9.length c0_9, .slice A0_10 l0_10.length c0_10, .slice A0_11 l0_11.length c0_11]] w fun e w' => ∃ v0_ : Value, e = .returned (v0_) ∧ Kd.R (Kd.int .i8) 46 w' w.heap.size (fun _ => True) v0_ r ∧ Below w.heap.size w w' := by
  have hu29 := Try.underlying29
  have hu23 := Try.underlying23
  have HR8 := Aside0.mk hr0_8
  have HR9 := Aside0.mk hr0_9
  have HR10 := Aside0.mk hr0_10
  have HR11 := Aside0.mk hr0_11
  have HC := Aside0.mk (And.intro hc0_8 (And.intro hc0_9 (And.intro hc0_10 hc0_11)))
  clear hr0_8 hc0_8 hr0_9 hc0_9 hr0_10 hc0_10 hr0_11 hc0_11
  have HI0 : Aside0 (CkOne w w.heap.size 29 #[.int .i64 a0_0, .int .i64 a0_1, .int .i64 a0_2, .int .i64 a0_3, .int .i64 a0_4, .int .i64 a0_5, .int .i64 a0_6, .int .i64 a0_7, .slice A0_8 l0_8.length c0_8, .slice A0_9 l0_9.length c0_9, .slice A0_10 l0_10.length c0_10, .slice A0_11 l0_11.length c0_11] (w.alloc (.cells #[.int .i64 a0_0, .int .i64 a0_1, .int .i64 a0_2, .int .i64 a0_3, .int .i64 a0_4, .int .i64 a0_5, .int .i64 a0_6, .int .i64 a0_7, .slice A0_8 l0_8.length c0_8, .slice A0_9 l0_9.length c0_9, .slice A0_10 l0_10.length c0_10, .slice A0_11 l0_11.length c0_11] 29))) := ⟨blk_new w _, below_alloc (Below.refl _ _) _, Nat.le_refl _⟩
  obtain ⟨t, ht, H⟩ := Option.bind_eq_some_iff.mp h
  clear h
  have HT := Aside0.mk ht
  clear ht
  by_cases c0 : t = 0
  · subst c0
    rw [if_pos rfl] at H
    obtain rfl := Option.some.inj H
    clear H
    have HZ := Aside0.mk (chk_zero HT.out)
    go_enter Try.func19, Try.ntmps19
    have hm0 : (w.alloc (.cells #[.int .i64 a0_0, .int .i64 a0_1, .int .i64 a0_2, .int .i64 a0_3, .int .i64 a0_4, .int .i64 a0_5, .int .i64 a0_6, .int .i64 a0_7, .slice A0_8 l0_8.length c0_8, .slice A0_9 l0_9.length c0_9, .slice A0_10 l0_10.length c0_10, .slice A0_11 l0_11.length c0_11] 29)).cell? ⟨w.heap.size, 0, none⟩ = some (.int .i64 a0_0) := (blk_cell HI0.out.b1 0).trans rfl
    have hm1 : (w.alloc (.cells #[.int .i64 a0_0, .int .i64 a0_1, .int .i64 a0_2, .int .i64 a0_3, .int .i64 a0_4, .int .i64 a0_5, .int .i64 a0_6, .int .i64 a0_7, .slice A0_8 l0_8.length c0_8, .slice A0_9 l0_9.length c0_9, .slice A0_10 l0_10.length c0_10, .slice A0_11 l0_11.length c0_11] 29)).cell? ⟨w.heap.size, 1, none⟩ = some (.int .i64 a0_1) := (blk_cell HI0.out.b1 1).trans rfl
    have hm2 : (w.alloc (.cells #[.int .i64 a0_0, .int .i64 a0_1, .int .i64 a0_2, .int .i64 a0_3, .int .i64 a0_4, .int .i64 a0_5, .int .i64 a0_6, .int .i64 a0_7, .slice A0_8 l0_8.length c0_8, .slice A0_9 l0_9.length c0_9, .slice A0_10 l0_10.length c0_10, .slice A0_11 l0_11.length c0_11] 29)).cell? ⟨w.heap.size, 2, none⟩ = some (.int .i64 a0_2) := (blk_cell HI0.out.b1 2).trans rfl
    have hm3 : (w.alloc (.cells #[.int .i64 a0_0, .int .i64 a0_1, .int .i64 a0_2, .int .i64 a0_3, .int .i64 a0_4, .int .i64 a0_5, .int .i64 a0_6, .int .i64 a0_7, .slice A0_8 l0_8.length c0_8, .slice A0_9 l0_9.length c0_9, .slice A0_10 l0_10.length c0_10, .slice A0_11 l0_11.length c0_11] 29)).cell? ⟨w.heap.size, 3, none⟩ = some (.int .i64 a0_3) := (blk_cell HI0.out.b1 3).trans rfl
    have hm4 : (w.alloc (.cells #[.int .i64 a0_0, .int .i64 a0_1, .int .i64 a0_2, .int .i64 a0_3, .int .i64 a0_4, .int .i64 a0_5, .int .i64 a0_6, .int .i64 a0_7, .slice A0_8 l0_8.length c0_8, .slice A0_9 l0_9.length c0_9, .slice A0_10 l0_10.length c0_10, .slice A0_11 l0_11.length c0_11] 29)).cell? ⟨w.heap.size, 4, none⟩ = some (.int .i64 a0_4) := (blk_cell HI0.out.b1 4).trans rfl
    have hm5 : (w.alloc (.cells #[.int .i64 a0_0, .int .i64 a0_1, .int .i64 a0_2, .int .i64 a0_3, .int .i64 a0_4, .int .i64 a0_5, .int .i64 a0_6, .int .i64 a0_7, .slice A0_8 l0_8.length c0_8, .slice A0_9 l0_9.length c0_9, .slice A0_10 l0_10.length c0_10, .slice A0_11 l0_11.length c0_11] 29)).cell? ⟨w.heap.size, 5, none⟩ = some (.int .i64 a0_5) := (blk_cell HI0.out.b1 5).trans rfl
    have hm6 : (w.alloc (.cells #[.int .i64 a0_0, .int .i64 a0_1, .int .i64 a0_2, .int .i64 a0_3, .int .i64 a0_4, .int .i64 a0_5, .int .i64 a0_6, .int .i64 a0_7, .slice A0_8 l0_8.length c0_8, .slice A0_9 l0_9.length c0_9, .slice A0_10 l0_10.length c0_10, .slice A0_11 l0_11.length c0_11] 29)).cell? ⟨w.heap.size, 6, none⟩ = some (.int .i64 a0_6) := (blk_cell HI0.out.b1 6).trans rfl
    have hm7 : (w.alloc (.cells #[.int .i64 a0_0, .int .i64 a0_1, .int .i64 a0_2, .int .i64 a0_3, .int .i64 a0_4, .int .i64 a0_5, .int .i64 a0_6, .int .i64 a0_7, .slice A0_8 l0_8.length c0_8, .slice A0_9 l0_9.length c0_9, .slice A0_10 l0_10.length c0_10, .slice A0_11 l0_11.length c0_11] 29)).cell? ⟨w.heap.size, 7, none⟩ = some (.int .i64 a0_7) := (blk_cell HI0.out.b1 7).trans rfl
    have hm8 : (w.alloc (.cells #[.int .i64 a0_0, .int .i64 a0_1, .int .i64 a0_2, .int .i64 a0_3, .int .i64 a0_4, .int .i64 a0_5, .int .i64 a0_6, .int .i64 a0_7, .slice A0_8 l0_8.length c0_8, .slice A0_9 l0_9.length c0_9, .slice A0_10 l0_10.length c0_10, .slice A0_11 l0_11.length c0_11] 29)).cell? ⟨w.heap.size, 8, none⟩ = some (.slice A0_8 l0_8.length c0_8) := (blk_cell HI0.out.b1 8).trans rfl
    have hm9 : (w.alloc (.cells #[.int .i64 a0_0, .int .i64 a0_1, .int .i64 a0_2, .int .i64 a0_3, .int .i64 a0_4, .int .i64 a0_5, .int .i64 a0_6, .int .i64 a0_7, .slice A0_8 l0_8.length c0_8, .slice A0_9 l0_9.length c0_9, .slice A0_10 l0_10.length c0_10, .slice A0_11 l0_11.length c0_11] 29)).cell? ⟨w.heap.size, 9, none⟩ = some (.slice A0_9 l0_9.length c0_9) := (blk_cell HI0.out.b1 9).trans rfl
    have hm10 : (w.alloc (.cells #[.int .i64 a0_0, .int .i64 a0_1, .int .i64 a0_2, .int .i64 a0_3, .int .i64 a0_4, .int .i64 a0_5, .int .i64 a0_6, .int .i64 a0_7, .slice A0_8 l0_8.length c0_8, .slice A0_9 l0_9.length c0_9, .slice A0_10 l0_10.length c0_10, .slice A0_11 l0_11.length c0_11] 29)).cell? ⟨w.heap.size, 10, none⟩ = some (.slice A0_10 l0_10.length c0_10) := (blk_cell HI0.out.b1 10).trans rfl
    have hm11 : (w.alloc (.cells #[.int .i64 a0_0, .int .i64 a0_1, .int .i64 a0_2, .int .i64 a0_3, .int .i64 a0_4, .int .i64 a0_5, .int .i64 a0_6, .int .i64 a0_7, .slice A0_8 l0_8.length c0_8, .slice A0_9 l0_9.length c0_9, .slice A0_10 l0_10.length c0_10, .slice A0_11 l0_11.length c0_11] 29)).cell? ⟨w.heap.size, 11, none⟩ = some (.slice A0_11 l0_11.length c0_11) := (blk_cell HI0.out.b1 11).trans rfl
    go_wp2_with (first | ((with_reducible refine gate_callee (f := 16) rfl ?_); refine goesL_ (some 5) rfl rfl Try.func16 (by kernel_rfl) rfl #[.agg #[.int .i64 a0_0, .int .i64 a0_1, .int .i64 a0_2, .int .i64 a0_3, .int .i64 a0_4, .int .i64 a0_5, .int .i64 a0_6, .int .i64 a0_7, .slice A0_8 l0_8.length c0_8, .slice A0_9 l0_9.length c0_9, .slice A0_10 l0_10.length c0_10, .slice A0_11 l0_11.length c0_11]] rfl (by (try simp only [List.map_toArray, List.map_cons, List.map_nil]); first | done | rfl) ?_; (with_reducible refine (ckpt_Check.calls k a0_0 a0_1 a0_2 a0_3 a0_4 a0_5 a0_6 a0_7 A0_8 c0_8 l0_8 A0_9 c0_9 l0_9 A0_10 c0_10 l0_10 A0_11 c0_11 l0_11 _ _ (Kd.C_below HR8.out HI0.out.bl) HC.out.1 (Kd.C_below HR9.out HI0.out.bl) HC.out.2.1 (Kd.C_below HR10.out HI0.out.bl) HC.out.2.2.1 (Kd.C_below HR11.out HI0.out.bl) HC.out.2.2.2 HT.out).mono ?_); rintro e w1 ⟨rfl, hb⟩; refine ⟨_, rfl, ?_⟩; have HI := Aside0.mk (HI0.out.below hb); clear hb HI0; clear hm0 hm1 hm2 hm3 hm4 hm5 hm6 hm7 hm8 hm9 hm10 hm11) | ((with_reducible refine gate_callee (f := 30) rfl ?_); refine goesL_ (some 8) rfl rfl Try.func30 (by kernel_rfl) rfl #[.pointer (some ⟨w.heap.size, 0, none⟩), .func (.func 43) #[] #[.pointer (some ⟨w1.heap.size, 0, none⟩)]] rfl (by (try simp only [List.map_toArray, List.map_cons, List.map_nil]); first | done | rfl) ?_; refine (ckpt_Flat_visit a0_0 a0_1 a0_2 a0_3 a0_4 a0_5 a0_6 a0_7 A0_8 c0_8 l0_8 A0_9 c0_9 l0_9 A0_10 c0_10 l0_10 A0_11 c0_11 l0_11 w (w1.alloc (.cells #[.slice none 0 0] 26)) w1.heap.size HR8.out HR9.out HR10.out HR11.out ⟨blk_alloc HI.out.b1 _, blk_new w1 _, below_alloc HI.out.bl _, Nat.le_refl _, blk_lt HI.out.b1⟩ HZ.out.1 HZ.out.2).mono ?_; rintro e w2 ⟨⟨uu, rfl⟩, v, hI2, hR2⟩; refine ⟨_, rfl, ?_⟩; have HVR := Aside0.mk hR2; obtain ⟨Av, cv, e_⟩ := Kd.R_slice hR2; clear hR2; obtain ⟨rr, hrr⟩ : ∃ rr, rr = ((rowsM (mx a0_5 1).toNat l0_8 l0_9 l0_10 l0_11).flatMap id) := ⟨_, rfl⟩; rw [← hrr] at HVR e_; have HRR := Aside0.mk hrr; clear hrr; generalize rr.length = m1 at e_; subst e_; have HV := Aside0.mk hI2; clear hI2; have hx := (blk_cell HV.out.b2 0).trans rfl))
    go_ret
    have hfin : Kd.R (Kd.int .i8) 46 w2 w.heap.size (fun _ => True) (.slice Av m1 cv) rr := Kd.R_lower HVR.out (by have := HI.out.bl.size; rw [World.size_alloc]; omega)
    rw [HRR.out] at hfin
    exact ⟨_, rfl, hfin, HV.out.bl⟩
  · rw [if_neg c0] at H
    obtain rfl := Option.some.inj H
    clear H
    have ct : (t != 0) = true := bne_iff_ne.mpr c0
    clear c0
    go_enter Try.func19, Try.ntmps19
    have hm0 : (w.alloc (.cells #[.int .i64 a0_0, .int .i64 a0_1, .int .i64 a0_2, .int .i64 a0_3, .int .i64 a0_4, .int .i64 a0_5, .int .i64 a0_6, .int .i64 a0_7, .slice A0_8 l0_8.length c0_8, .slice A0_9 l0_9.length c0_9, .slice A0_10 l0_10.length c0_10, .slice A0_11 l0_11.length c0_11] 29)).cell? ⟨w.heap.size, 0, none⟩ = some (.int .i64 a0_0) := (blk_cell HI0.out.b1 0).trans rfl
    have hm1 : (w.alloc (.cells #[.int .i64 a0_0, .int .i64 a0_1, .int .i64 a0_2, .int .i64 a0_3, .int .i64 a0_4, .int .i64 a0_5, .int .i64 a0_6, .int .i64 a0_7, .slice A0_8 l0_8.length c0_8, .slice A0_9 l0_9.length c0_9, .slice A0_10 l0_10.length c0_10, .slice A0_11 l0_11.length c0_11] 29)).cell? ⟨w.heap.size, 1, none⟩ = some (.int .i64 a0_1) := (blk_cell HI0.out.b1 1).trans rfl
    have hm2 : (w.alloc (.cells #[.int .i64 a0_0, .int .i64 a0_1, .int .i64 a0_2, .int .i64 a0_3, .int .i64 a0_4, .int .i64 a0_5, .int .i64 a0_6, .int .i64 a0_7, .slice A0_8 l0_8.length c0_8, .slice A0_9 l0_9.length c0_9, .slice A0_10 l0_10.length c0_10, .slice A0_11 l0_11.length c0_11] 29)).cell? ⟨w.heap.size, 2, none⟩ = some (.int .i64 a0_2) := (blk_cell HI0.out.b1 2).trans rfl
    have hm3 : (w.alloc (.cells #[.int .i64 a0_0, .int .i64 a0_1, .int .i64 a0_2, .int .i64 a0_3, .int .i64 a0_4, .int .i64 a0_5, .int .i64 a0_6, .int .i64 a0_7, .slice A0_8 l0_8.length c0_8, .slice A0_9 l0_9.length c0_9, .slice A0_10 l0_10.length c0_10, .slice A0_11 l0_11.length c0_11] 29)).cell? ⟨w.heap.size, 3, none⟩ = some (.int .i64 a0_3) := (blk_cell HI0.out.b1 3).trans rfl
    have hm4 : (w.alloc (.cells #[.int .i64 a0_0, .int .i64 a0_1, .int .i64 a0_2, .int .i64 a0_3, .int .i64 a0_4, .int .i64 a0_5, .int .i64 a0_6, .int .i64 a0_7, .slice A0_8 l0_8.length c0_8, .slice A0_9 l0_9.length c0_9, .slice A0_10 l0_10.length c0_10, .slice A0_11 l0_11.length c0_11] 29)).cell? ⟨w.heap.size, 4, none⟩ = some (.int .i64 a0_4) := (blk_cell HI0.out.b1 4).trans rfl
    have hm5 : (w.alloc (.cells #[.int .i64 a0_0, .int .i64 a0_1, .int .i64 a0_2, .int .i64 a0_3, .int .i64 a0_4, .int .i64 a0_5, .int .i64 a0_6, .int .i64 a0_7, .slice A0_8 l0_8.length c0_8, .slice A0_9 l0_9.length c0_9, .slice A0_10 l0_10.length c0_10, .slice A0_11 l0_11.length c0_11] 29)).cell? ⟨w.heap.size, 5, none⟩ = some (.int .i64 a0_5) := (blk_cell HI0.out.b1 5).trans rfl
    have hm6 : (w.alloc (.cells #[.int .i64 a0_0, .int .i64 a0_1, .int .i64 a0_2, .int .i64 a0_3, .int .i64 a0_4, .int .i64 a0_5, .int .i64 a0_6, .int .i64 a0_7, .slice A0_8 l0_8.length c0_8, .slice A0_9 l0_9.length c0_9, .slice A0_10 l0_10.length c0_10, .slice A0_11 l0_11.length c0_11] 29)).cell? ⟨w.heap.size, 6, none⟩ = some (.int .i64 a0_6) := (blk_cell HI0.out.b1 6).trans rfl
    have hm7 : (w.alloc (.cells #[.int .i64 a0_0, .int .i64 a0_1, .int .i64 a0_2, .int .i64 a0_3, .int .i64 a0_4, .int .i64 a0_5, .int .i64 a0_6, .int .i64 a0_7, .slice A0_8 l0_8.length c0_8, .slice A0_9 l0_9.length c0_9, .slice A0_10 l0_10.length c0_10, .slice A0_11 l0_11.length c0_11] 29)).cell? ⟨w.heap.size, 7, none⟩ = some (.int .i64 a0_7) := (blk_cell HI0.out.b1 7).trans rfl
    have hm8 : (w.alloc (.cells #[.int .i64 a0_0, .int .i64 a0_1, .int .i64 a0_2, .int .i64 a0_3, .int .i64 a0_4, .int .i64 a0_5, .int .i64 a0_6, .int .i64 a0_7, .slice A0_8 l0_8.length c0_8, .slice A0_9 l0_9.length c0_9, .slice A0_10 l0_10.length c0_10, .slice A0_11 l0_11.length c0_11] 29)).cell? ⟨w.heap.size, 8, none⟩ = some (.slice A0_8 l0_8.length c0_8) := (blk_cell HI0.out.b1 8).trans rfl
    have hm9 : (w.alloc (.cells #[.int .i64 a0_0, .int .i64 a0_1, .int .i64 a0_2, .int .i64 a0_3, .int .i64 a0_4, .int .i64 a0_5, .int .i64 a0_6, .int .i64 a0_7, .slice A0_8 l0_8.length c0_8, .slice A0_9 l0_9.length c0_9, .slice A0_10 l0_10.length c0_10, .slice A0_11 l0_11.length c0_11] 29)).cell? ⟨w.heap.size, 9, none⟩ = some (.slice A0_9 l0_9.length c0_9) := (blk_cell HI0.out.b1 9).trans rfl
    have hm10 : (w.alloc (.cells #[.int .i64 a0_0, .int .i64 a0_1, .int .i64 a0_2, .int .i64 a0_3, .int .i64 a0_4, .int .i64 a0_5, .int .i64 a0_6, .int .i64 a0_7, .slice A0_8 l0_8.length c0_8, .slice A0_9 l0_9.length c0_9, .slice A0_10 l0_10.length c0_10, .slice A0_11 l0_11.length c0_11] 29)).cell? ⟨w.heap.size, 10, none⟩ = some (.slice A0_10 l0_10.length c0_10) := (blk_cell HI0.out.b1 10).trans rfl
    have hm11 : (w.alloc (.cells #[.int .i64 a0_0, .int .i64 a0_1, .int .i64 a0_2, .int .i64 a0_3, .int .i64 a0_4, .int .i64 a0_5, .int .i64 a0_6, .int .i64 a0_7, .slice A0_8 l0_8.length c0_8, .slice A0_9 l0_9.length c0_9, .slice A0_10 l0_10.length c0_10, .slice A0_11 l0_11.length c0_11] 29)).cell? ⟨w.heap.size, 11, none⟩ = some (.slice A0_11 l0_11.length c0_11) := (blk_cell HI0.out.b1 11).trans rfl
    go_wp2_with (first | ((with_reducible refine gate_callee (f := 16) rfl ?_); refine goesL_ (some 5) rfl rfl Try.func16 (by kernel_rfl) rfl #[.agg #[.int .i64 a0_0, .int .i64 a0_1, .int .i64 a0_2, .int .i64 a0_3, .int .i64 a0_4, .int .i64 a0_5, .int .i64 a0_6, .int .i64 a0_7, .slice A0_8 l0_8.length c0_8, .slice A0_9 l0_9.length c0_9, .slice A0_10 l0_10.length c0_10, .slice A0_11 l0_11.length c0_11]] rfl (by (try simp only [List.map_toArray, List.map_cons, List.map_nil]); first | done | rfl) ?_; (with_reducible refine (ckpt_Check.calls k a0_0 a0_1 a0_2 a0_3 a0_4 a0_5 a0_6 a0_7 A0_8 c0_8 l0_8 A0_9 c0_9 l0_9 A0_10 c0_10 l0_10 A0_11 c0_11 l0_11 _ _ (Kd.C_below HR8.out HI0.out.bl) HC.out.1 (Kd.C_below HR9.out HI0.out.bl) HC.out.2.1 (Kd.C_below HR10.out HI0.out.bl) HC.out.2.2.1 (Kd.C_below HR11.out HI0.out.bl) HC.out.2.2.2 HT.out).mono ?_); rintro e w1 ⟨rfl, hb⟩; refine ⟨_, rfl, ?_⟩; have HI := Aside0.mk (HI0.out.below hb); clear hb HI0; clear hm0 hm1 hm2 hm3 hm4 hm5 hm6 hm7 hm8 hm9 hm10 hm11))
    go_ret
    exact ⟨_, rfl, Kd.R_nil _ _ _ _ _, HI.out.bl⟩

-- NOT PRINTED: function 63 (abi_NoEscape)

-- NOT PRINTED: function 58 (strings_Builder_copyCheck)

-- NOT PRINTED: function 33 (strings_Builder_WriteString)

/-! ### bytes_Two: function 34 -/
def bytes_Two.f (a0 : Int) : Option (ByteArray) := some (strOfNums (([(a0) % 256, (a0 / 256) % 256] : List Int)))
set_option maxHeartbeats 8000000 in
set_option maxRecDepth 100000 in
theorem bytes_Two.calls (a0 : Int) (r : ByteArray) (w : World) (h : bytes_Two.f a0 = some r) :
    Calls Try.prog 34 #[.int .i64 a0] w fun e w' => e = .returned (.string r) ∧ Below w.heap.size w w' := by
  have HB := Aside0.mk (Below.refl w.heap.size w)
  have H : (some (strOfNums (([(a0) % 256, (a0 / 256) % 256] : List Int)))) = some r := h
  clear h
  obtain ⟨y112, hy112⟩ : ∃ y_ : List Int, y_ = (([(a0) % 256, (a0 / 256) % 256] : List Int)) := ⟨_, rfl⟩
  replace H : (some (strOfNums y112)) = some r := by first | (rw [hy112]; with_reducible exact H) | (have H2_ := (Option.bind_some _ _).symm.trans H; rw [hy112]; with_reducible exact H2_) | (have H2_ := (Option.bind_some _ _).symm.trans H; with_reducible exact H2_) | with_reducible exact H | (rw [hy112]; exact H) | exact H
  have Ny112 := Aside0.mk hy112
  clear hy112
  obtain rfl := Option.some.inj H
  go_enter Try.func34, Try.ntmps34
  go_wp2_with (first | ((with_reducible refine gate_dst (N := 8) rfl ?_); refine Kd.R_lit (Kd.int .u8) _ 5 ?hg (N := 8) ?hd (xs := ([(a0) % 256, (a0 / 256) % 256] : List Int)) (inner := [.int .u8 ((a0) % 256), .int .u8 ((a0 / 256) % 256)]) (ok := fun _ => True) (okp := fun _ => True) ?hr ?hp (fun _ hk => hk) trivial (Below.refl _ _) (Nat.le_refl _) (by simp) ?_; (case hd => rfl); (case hg => rfl); (case hr => first | (go_simp; done) | (go_simp; rfl)); (case hp => exact (Reps.one (show Kd.M (Kd.int .u8) _ _ _ ((a0) % 256) [.int .u8 ((a0) % 256)] from rfl) (Reps.one (show Kd.M (Kd.int .u8) _ _ _ ((a0 / 256) % 256) [.int .u8 ((a0 / 256) % 256)] from rfl) (Reps.none _ _)))); intro v113 w2 ho3 hb hg_ hnew_; clear hg_ hnew_; (first | rw [← Ny112.out] at ho3 | (simp only [Int.reduceToNat] at ho3; rw [← Ny112.out] at ho3)); have n0_ := Aside0.mk (Kd.R_lower ho3 (below_size by_)); have n1_ := Aside0.mk (below_step by_ hb); clear HB; have HO114 := n0_; have HB := n1_; clear n0_ n1_; clear hb ho3; have hcv4 := own_string (P := Try.prog) Try.underlying49 Try.underlying5 Try.underlying9 (Kd.own_of_R HO114.out)))
  go_ret
  exact ⟨by first | rfl | (simp [errW_none, errW_some] <;> rfl) | (simp [*, errW_none, errW_some] <;> rfl), by repeat (first | (with_reducible first | exact HB.out | apply below_alloc | apply pw_below_drewN | apply below_drew1) | exact HB.out)⟩

/-! ### bytes_Weights: function 35 -/
def bytes_Weights.l0 : Nat → List Int → List Int → Int → Int → Option (ByteArray)
  | 0, _, _, _, _ => none
  | k + 1, x3, x15, x16, x17 => if x17 < x16 then (if 0 ≤ x17 then (if x17 < (x15.length : Int) then (if x3.length < 140737488355328 then (bytes_Weights.l0 k (x3 ++ [(rd x15 x17) % 256]) x15 x16 (wrap64 (x17 + 1))) else (none)) else (none)) else (none)) else (some (strOfNums x3))
def bytes_Weights.f (k : Nat) (l0 : List Int) : Option (ByteArray) := (bytes_Two.f ((min l0.length 65535 : Nat) : Int)).bind fun t105 => (if t105.size ≤ 4611686018427387904 then bytes_Weights.l0 k (bytesOf t105) (l0.take (min l0.length 65535)) ((min l0.length 65535 : Nat) : Int) 0 else (none))
theorem bytes_Weights.mono_l : ∀ k, (∀ y0 y1 y2 y3, LeO (bytes_Weights.l0 k y0 y1 y2 y3) (bytes_Weights.l0 (k + 1) y0 y1 y2 y3))
  | 0 => fun _ _ _ _ r h => by simp [bytes_Weights.l0] at h
  | k + 1 => by
    have ih0 := bytes_Weights.mono_l k
    · intro y0 y1 y2 y3
      unfold bytes_Weights.l0
      repeat' first
      | (with_reducible exact ih0 _ _ _ _)
      | (with_reducible exact LeO.refl _)
      | (with_reducible exact LeO.none _)
      | (with_reducible refine LeO.ite ?_ ?_)
      | (with_reducible refine LeO.bind ?_ (fun _ => ?_))
      | exact ih0 _ _ _ _
      | exact LeO.none _
      | refine LeO.ite ?_ ?_
      | refine LeO.bind ?_ (fun _ => ?_)
theorem bytes_Weights.mono : ∀ a0 k, LeO (bytes_Weights.f k a0) (bytes_Weights.f (k + 1) a0) := by
  intro a0 k
  have ih0 := bytes_Weights.mono_l k
  unfold bytes_Weights.f
  repeat' first
      | (with_reducible exact ih0 _ _ _ _)
      | (with_reducible exact LeO.refl _)
      | (with_reducible exact LeO.none _)
      | (with_reducible refine LeO.ite ?_ ?_)
      | (with_reducible refine LeO.bind ?_ (fun _ => ?_))
      | exact ih0 _ _ _ _
      | exact LeO.none _
      | refine LeO.ite ?_ ?_
      | refine LeO.bind ?_ (fun _ => ?_)
set_option maxHeartbeats 8000000 in
set_option maxRecDepth 100000 in
theorem bytes_Weights.calls (k : Nat) (A0 : Option Addr) (c0 : Nat) (l0 : List Int) (r : ByteArray) (w : World) (hr0 : Kd.C (Kd.int .i8) w A0 l0.length l0) (hc0 : l0.length ≤ c0) (h : bytes_Weights.f k l0 = some r) :
    Calls Try.prog 35 #[.slice A0 l0.length c0] w fun e w' => e = .returned (.string r) ∧ Below w.heap.size w w' := by
  have HR0 := Aside0.mk hr0
  have HC0 := Aside0.mk hc0
  clear hr0 hc0
  have HB := Aside0.mk (Below.refl w.heap.size w)
  obtain ⟨n, hn⟩ : ∃ n : Nat, n = min l0.length 65535 := ⟨_, rfl⟩
  have hmin : (if 65535 < (l0.length : Int) then 65535 else (l0.length : Int)) = (n : Int) := by split <;> omega
  have hnl : n ≤ l0.length := by omega
  have H : ((bytes_Two.f (n : Int)).bind fun t105 => (if t105.size ≤ 4611686018427387904 then bytes_Weights.l0 k (bytesOf t105) (l0.take n) (n : Int) 0 else (none))) = some r := by rw [hn]; exact h
  clear h
  have hln : (l0.take n).length = n := by rw [List.length_take]; omega
  obtain ⟨L, hL⟩ : ∃ L, L = l0.take n := ⟨_, rfl⟩
  rw [← hL] at H hln
  have NL := Aside0.mk hL
  have NN := Aside0.mk hln
  replace H := Option.bind_eq_some_iff.mp H
  obtain ⟨t105, A50, H⟩ := H
  have cz : t105.size ≤ 4611686018427387904 := by (by_cases cz : t105.size ≤ 4611686018427387904; exact cz; rw [if_neg cz] at H; cases H)
  rw [if_pos cz] at H
  have NZ := Aside0.mk cz
  clear cz
  have A5 := Aside0.mk A50
  clear A50
  obtain ⟨y106, hy106⟩ : ∃ y_ : List Int, y_ = (bytesOf t105) := ⟨_, rfl⟩
  replace H : (bytes_Weights.l0 k y106 L (n : Int) 0) = some r := by first | (rw [hy106]; with_reducible exact H) | (have H2_ := (Option.bind_some _ _).symm.trans H; rw [hy106]; with_reducible exact H2_) | (have H2_ := (Option.bind_some _ _).symm.trans H; with_reducible exact H2_) | with_reducible exact H | (rw [hy106]; exact H) | exact H
  have Ny106 := Aside0.mk hy106
  clear hy106
  have H' := Aside0.mk H
  clear H
  have hln6 := NN.out
  obtain ⟨i06, hi06, _, hsz6, _⟩ := info_parts info46
  obtain ⟨hcut6, hA6, hC6⟩ := print_take_of (P := Try.prog) (Value.int .i8) 0 26 46 .i64 Try.underlying26 hi06 hsz6 A0 c0 l0 (n : Int) (Int.natCast_nonneg n) (Int.ofNat_le.2 hnl) HC0.out
  simp only [Int.toNat_natCast] at hcut6 hA6 hC6
  rw [← NL.out] at hcut6 hA6 hC6
  have HR104 := Aside0.mk (Kd.C_of_reads (h1 := fun _ => rfl) (hA6 _ (Kd.reads_of_C HR0.out)))
  rw [NN.out] at hcut6 hC6
  have HC104 := Aside0.mk hC6
  have c3b1 : decide (0 ≤ (n : Int)) = true := decide_eq_true (Int.natCast_nonneg n)
  have c4b1 : decide ((n : Int) ≤ (l0.length : Int)) = true := decide_eq_true (Int.ofNat_le.2 hnl)
  clear hA6 hC6 hi06 hsz6 hln6 hln hL hn hnl
  go_enter Try.func35, Try.ntmps35
  go_wp2_with (first | ((with_reducible refine gate_callee (f := 34) rfl ?_); refine goesL_ (some 13) rfl rfl Try.func34 (by kernel_rfl) rfl #[.int .i64 (n : Int)] rfl (by (try simp only [List.map_toArray, List.map_cons, List.map_nil]); first | done | rfl | (simp; done)) ?_; (with_reducible refine (bytes_Two.calls (n : Int) t105 _ A5.out).mono ?_); rintro e w7 ⟨rfl, hb⟩; refine ⟨_, rfl, ?_⟩; have n0_ := Aside0.mk (below_step by_ hb); clear HB; have HB := n0_; clear n0_; (try clear hb); (try clear hb2); (try clear hk); (try clear hi)) | ((with_reducible refine gate_dst (N := 14) rfl ?_); refine OwnB.event rfl (N := 14) rfl 9 49 5 _ rfl Try.underlying9 Try.underlying49 Try.underlying5 t105 rfl (Nat.le_trans NZ.out (by decide)) (base := w.heap.size) (below_size by_) ?_; intro v107 w8 ho9 hb hbl; clear hbl; rw [← Ny106.out] at ho9; have n0_ := Aside0.mk ho9; have n1_ := Aside0.mk (below_step by_ hb); clear HB; have HO108 := n0_; have HB := n1_; clear n0_ n1_; clear hb ho9))
  go_loopg [3, 17] k (fun kq v3 v17 w' => ∃ (x3_1 : List Int) (x17_1 : Int), v17 = .int .i64 x17_1 ∧ Aside0 (bytes_Weights.l0 kq x3_1 L (n : Int) x17_1 = some r) ∧ Aside0 (kq ≤ k) ∧ Aside0 (OwnB w' w.heap.size 5 v3 x3_1) ∧ Aside0 (Below w.heap.size w w'))
  case atStart => exact ⟨(y106), (0), (by first | rfl | (simp; done) | (simp [*]; done)), H', ⟨Nat.le_refl _⟩, ⟨by (with_reducible repeat (first | apply OwnB.alloc | apply OwnB.drewN)); exact HO108.out⟩, ⟨by repeat (first | (with_reducible first | exact HB.out | apply below_alloc | apply pw_below_drewN | apply below_drew1) | exact HB.out)⟩⟩
  case round =>
    clear H'
    try clear c1
    try clear p2
    try clear hcut6
    try clear hmin
    try clear c3b1
    try clear c4b1
    obtain ⟨x3_1, x17_1, rfl, HA, HK1, HO_3, HB⟩ := hrel
    cases gk with
    | zero => exact absurd HA.out (by simp [bytes_Weights.l0])
    | succ k1 =>
      have H := HA.out
      clear HA
      simp only [bytes_Weights.l0] at H
      by_cases c10 : x17_1 < (n : Int)
      · rw [if_pos c10] at H
        have c10b0 : decide (x17_1 < (n : Int)) = true := decide_eq_true c10
        clear c10
        by_cases c11 : 0 ≤ x17_1
        · rw [if_pos c11] at H
          have c11b0 : decide (0 ≤ x17_1) = true := decide_eq_true c11
          clear c11
          by_cases c12 : x17_1 < (L.length : Int)
          · rw [if_pos c12] at H
            skip
            clear c12
            by_cases c13 : x3_1.length < 140737488355328
            · rw [if_pos c13] at H
              have LMc13 := Aside0.mk c13
              clear c13
              obtain ⟨y110, hy110⟩ : ∃ y_ : List Int, y_ = (x3_1 ++ [(rd L x17_1) % 256]) := ⟨_, rfl⟩
              replace H : (bytes_Weights.l0 k1 y110 L (n : Int) (wrap64 (x17_1 + 1))) = some r := by first | (rw [hy110]; with_reducible exact H) | (have H2_ := (Option.bind_some _ _).symm.trans H; rw [hy110]; with_reducible exact H2_) | (have H2_ := (Option.bind_some _ _).symm.trans H; with_reducible exact H2_) | with_reducible exact H | (rw [hy110]; exact H) | exact H
              have Ny110 := Aside0.mk hy110
              clear hy110
              have H' := Aside0.mk H
              clear H
              have p109 : 0 ≤ (x17_1 : Int) := of_decide_eq_true (by first | (with_reducible assumption) | assumption)
              have q109 : x17_1 < (n : Int) := of_decide_eq_true (by first | (with_reducible assumption) | assumption)
              obtain ⟨ad109, e109, hx109_0⟩ := Kd.at_int HR104.out x17_1 p109 (by rw [NN.out]; exact q109)
              cases e109
              replace hx109_0 := (HB.out.cell (World.block_lt_of_cell? w _ hx109_0)).trans hx109_0
              replace p109 := eq_true p109
              replace q109 := eq_true q109
              go_wp2_with (first | ((with_reducible refine gate_builtin (b := .append) (xs := #[.tmp 21, .tmp 24]) rfl ?_); at_builtin; refine OwnB.append (w0 := w) w.heap.size rfl (.tmp 21) (.tmp 24) 49 5 rfl Try.underlying49 info5 u3 x3_1 ((rd L x17_1) % 256) rfl rfl ?aO ?aB ?aS ?aL ?_; (case aB => exact by_); (case aO => exact (by (with_reducible repeat (first | apply OwnB.alloc | apply OwnB.drewN)); exact HO_3.out)); (case aS => exact (below_size by_)); (case aL => have := LMc13.out; omega); intro v111 w14 ho hb hg; rw [← Ny110.out] at ho; have n0_ := Aside0.mk (hb); have n1_ := Aside0.mk (ho); clear HB; clear HO_3; have HB := n0_; have HO112 := n1_; clear n0_ n1_; clear ho hb hg))
              go_roundg k1
              case measure => have := HK1.out; omega
              case rel => exact ⟨(y110), (wrap64 (x17_1 + 1)), (by first | rfl | (simp; done) | (simp [*]; done)), H', ⟨by have := HK1.out; omega⟩, ⟨by (with_reducible repeat (first | apply OwnB.alloc | apply OwnB.drewN)); exact HO112.out⟩, ⟨by repeat (first | (with_reducible first | exact HB.out | apply below_alloc | apply pw_below_drewN | apply below_drew1) | exact HB.out)⟩⟩
            · rw [if_neg c13] at H
              exact absurd H (by simp)
          · rw [if_neg c12] at H
            exact absurd H (by simp)
        · rw [if_neg c11] at H
          exact absurd H (by simp)
      · rw [if_neg c10] at H
        have c10b0 : decide (x17_1 < (n : Int)) = false := decide_eq_false c10
        clear c10
        obtain rfl := Option.some.inj H
        have hcv15 := OwnB.string (P := Try.prog) Try.underlying49 Try.underlying5 Try.underlying9 HO_3.out
        go_wp2
        go_ret
        exact ⟨by first | rfl | (simp [errW_none, errW_some] <;> rfl) | (simp [*, errW_none, errW_some] <;> rfl), by repeat (first | (with_reducible first | exact HB.out | apply below_alloc | apply pw_below_drewN | apply below_drew1) | exact HB.out)⟩

/-! ### bytes_Sum: function 59 -/
def bytes_Sum.l0 : Nat → List Int → Int → Int → Int → Option (Int)
  | 0, _, _, _, _ => none
  | k + 1, x0, x3, x4, x5 => if x5 < (x0.length : Int) then (if 0 ≤ x5 then (bytes_Sum.l0 k x0 (Int.tmod (wrap64 (x3 + (wrap64 (rd x0 x5)))) 255) (Int.tmod (wrap64 (x4 + (Int.tmod (wrap64 (x3 + (wrap64 (rd x0 x5)))) 255))) 255) (wrap64 (x5 + 1))) else (none)) else (some (wrap64 ((wrap64 (256 * x4)) + x3)))
def bytes_Sum.f (k : Nat) (a0 : ByteArray) : Option (Int) := if a0.size ≤ 4611686018427387904 then bytes_Sum.l0 k (bytesOf a0) 0 0 0 else none
theorem bytes_Sum.mono_l : ∀ k, (∀ y0 y1 y2 y3, LeO (bytes_Sum.l0 k y0 y1 y2 y3) (bytes_Sum.l0 (k + 1) y0 y1 y2 y3))
  | 0 => fun _ _ _ _ r h => by simp [bytes_Sum.l0] at h
  | k + 1 => by
    have ih0 := bytes_Sum.mono_l k
    · intro y0 y1 y2 y3
      unfold bytes_Sum.l0
      repeat' first
      | (with_reducible exact ih0 _ _ _ _)
      | (with_reducible exact LeO.refl _)
      | (with_reducible exact LeO.none _)
      | (with_reducible refine LeO.ite ?_ ?_)
      | exact ih0 _ _ _ _
      | exact LeO.none _
      | refine LeO.ite ?_ ?_
theorem bytes_Sum.mono : ∀ a0 k, LeO (bytes_Sum.f k a0) (bytes_Sum.f (k + 1) a0) := by
  intro a0 k
  have ih0 := bytes_Sum.mono_l k
  unfold bytes_Sum.f
  exact LeO.ite (ih0 _ _ _ _) (LeO.none _)
set_option maxHeartbeats 8000000 in
set_option maxRecDepth 100000 in
theorem bytes_Sum.calls (k : Nat) (a0 : ByteArray) (r : Int) (w : World) (h : bytes_Sum.f k a0 = some r) :
    Calls Try.prog 59 #[.string a0] w fun e w' => e = .returned (.int .i64 r) ∧ Below w.heap.size w w' := by
  have hz : a0.size ≤ 4611686018427387904 := by
    unfold bytes_Sum.f at h
    split at h
    · assumption
    · cases h
  unfold bytes_Sum.f at h
  rw [if_pos hz] at h
  obtain ⟨L, hL⟩ : ∃ L, L = bytesOf a0 := ⟨_, rfl⟩
  rw [← hL] at h
  have H' := Aside0.mk h
  have NL := Aside0.mk hL
  have NZ := Aside0.mk hz
  clear h hL hz
  go_enter Try.func59, Try.ntmps59
  go_wp2_with (first | ((with_reducible refine gate_dst (N := 8) rfl ?_); refine OwnB.event rfl (N := 8) rfl 9 49 5 _ rfl Try.underlying9 Try.underlying49 Try.underlying5 a0 rfl (Nat.le_trans NZ.out (by decide)) (Nat.le_refl _) ?_; intro v1 w1 ho hb hbl; rw [← NL.out] at ho; obtain ⟨g, cap, rfl, hgb⟩ := ho.slice; have HB := Aside0.mk hb; have HO := Aside0.mk ho; clear ho hb hbl hgb))
  go_loopg [3, 4, 10] k (fun kq v3 v4 v5 w' => ∃ (x3_1 : Int) (x4_1 : Int) (x5_1 : Int), v3 = .int .i64 x3_1 ∧ v4 = .int .i64 x4_1 ∧ v5 = .int .i64 x5_1 ∧ Aside0 (bytes_Sum.l0 kq L x3_1 x4_1 x5_1 = some r) ∧ Aside0 (kq ≤ k) ∧ w1 = w')
  case atStart => exact ⟨(0), (0), (0), (by first | rfl | (simp; done) | (simp [*]; done)), (by first | rfl | (simp; done) | (simp [*]; done)), (by first | rfl | (simp; done) | (simp [*]; done)), H', ⟨Nat.le_refl _⟩, rfl⟩
  case round =>
    clear H'
    obtain ⟨x3_1, x4_1, x5_1, rfl, rfl, rfl, HA, HK1, rfl⟩ := hrel
    cases gk with
    | zero => exact absurd HA.out (by simp [bytes_Sum.l0])
    | succ k1 =>
      have H := HA.out
      clear HA
      simp only [bytes_Sum.l0] at H
      by_cases c2 : x5_1 < (L.length : Int)
      · rw [if_pos c2] at H
        have c2b0 : decide (x5_1 < (L.length : Int)) = true := decide_eq_true c2
        by_cases c3 : 0 ≤ x5_1
        · rw [if_pos c3] at H
          have c3b0 : decide (0 ≤ x5_1) = true := decide_eq_true c3
          have H' := Aside0.mk H
          clear H
          obtain ⟨g4, cap4, e4, _, hx4, _, _⟩ := HO.out.at_ x5_1 c3 c2
          injection e4 with e4a e4b e4c
          injection e4a with e4a
          injection e4a with e4a
          subst e4a
          clear e4b e4c
          have p4 := eq_true c3
          have q4 := eq_true c2
          clear c2 c3
          go_wp2
          go_roundg k1
          case measure => have := HK1.out; omega
          case rel => exact ⟨(Int.tmod (wrap64 (x3_1 + (wrap64 (rd L x5_1)))) 255), (Int.tmod (wrap64 (x4_1 + (Int.tmod (wrap64 (x3_1 + (wrap64 (rd L x5_1)))) 255))) 255), (wrap64 (x5_1 + 1)), (by first | rfl | (simp; done) | (simp [*]; done)), (by first | rfl | (simp; done) | (simp [*]; done)), (by first | rfl | (simp; done) | (simp [*]; done)), H', ⟨by have := HK1.out; omega⟩, rfl⟩
        · rw [if_neg c3] at H
          exact absurd H (by simp)
      · rw [if_neg c2] at H
        have c2b0 : decide (x5_1 < (L.length : Int)) = false := decide_eq_false c2
        clear c2
        obtain rfl := Option.some.inj H
        go_wp2
        go_ret
        exact ⟨by first | rfl | (simp; done) | (simp [*]; done), HB.out⟩

/-! ### bytes_Seal: function 36 -/
def bytes_Seal.f (k : Nat) (a0 : ByteArray) : Option (ByteArray) := (bytes_Sum.f k a0).bind fun t115 => ((bytes_Two.f t115).bind fun t116 => (if a0.size + t116.size ≤ 9223372036854775807 then (some (a0 ++ t116)) else (none)))
theorem bytes_Seal.mono : ∀ a0 k, LeO (bytes_Seal.f k a0) (bytes_Seal.f (k + 1) a0) := by
  intro a0 k
  unfold bytes_Seal.f
  repeat' first
      | (with_reducible exact bytes_Sum.mono _ _)
      | (with_reducible exact LeO.refl _)
      | (with_reducible exact LeO.none _)
      | (with_reducible refine LeO.ite ?_ ?_)
      | (with_reducible refine LeO.bind ?_ (fun _ => ?_))
      | exact bytes_Sum.mono _ _
      | exact LeO.none _
      | refine LeO.ite ?_ ?_
      | refine LeO.bind ?_ (fun _ => ?_)
set_option maxHeartbeats 8000000 in
set_option maxRecDepth 100000 in
theorem bytes_Seal.calls (k : Nat) (a0 : ByteArray) (r : ByteArray) (w : World) (h : bytes_Seal.f k a0 = some r) :
    Calls Try.prog 36 #[.string a0] w fun e w' => e = .returned (.string r) ∧ Below w.heap.size w w' := by
  have HB := Aside0.mk (Below.refl w.heap.size w)
  have H : ((bytes_Sum.f k a0).bind fun t115 => ((bytes_Two.f t115).bind fun t116 => (if a0.size + t116.size ≤ 9223372036854775807 then (some (a0 ++ t116)) else (none)))) = some r := h
  clear h
  replace H := Option.bind_eq_some_iff.mp H
  obtain ⟨t115, A20, H⟩ := H
  replace H : ((bytes_Two.f t115).bind fun t116 => (if a0.size + t116.size ≤ 9223372036854775807 then (some (a0 ++ t116)) else (none))) = some r := H
  have A2 := Aside0.mk A20
  clear A20
  replace H := Option.bind_eq_some_iff.mp H
  obtain ⟨t116, A30, H⟩ := H
  replace H : (if a0.size + t116.size ≤ 9223372036854775807 then (some (a0 ++ t116)) else (none)) = some r := H
  have A3 := Aside0.mk A30
  clear A30
  by_cases c4 : a0.size + t116.size ≤ 9223372036854775807
  · rw [if_pos c4] at H
    have c4b0 := eq_true c4
    have c4b1 : decide (a0.size + t116.size ≤ 9223372036854775807) = true := decide_eq_true c4
    try have c4b2 : (9223372036854775807 < a0.size + t116.size) = False := eq_false (Nat.not_lt.2 c4)
    obtain rfl := Option.some.inj H
    go_enter Try.func36, Try.ntmps36
    go_wp2_with (first | ((with_reducible refine gate_callee (f := 59) rfl ?_); refine goesL_ (some 5) rfl rfl Try.func59 (by kernel_rfl) rfl #[.string a0] rfl ar_ ?_; (with_reducible refine (bytes_Sum.calls k a0 t115 _ A2.out).mono ?_); rintro e w5 ⟨rfl, hb⟩; refine ⟨_, rfl, ?_⟩; have n0_ := Aside0.mk (below_step by_ hb); clear HB; have HB := n0_; clear n0_; (try clear hb); (try clear hb2); (try clear hk); (try clear hi)) | ((with_reducible refine gate_callee (f := 34) rfl ?_); refine goesL_ (some 6) rfl rfl Try.func34 (by kernel_rfl) rfl #[.int .i64 t115] rfl ar_ ?_; (with_reducible refine (bytes_Two.calls t115 t116 _ A3.out).mono ?_); rintro e w6 ⟨rfl, hb⟩; refine ⟨_, rfl, ?_⟩; have n0_ := Aside0.mk (below_step by_ hb); clear HB; have HB := n0_; clear n0_; (try clear hb); (try clear hb2); (try clear hk); (try clear hi)))
    go_ret
    exact ⟨by first | rfl | (simp [errW_none, errW_some] <;> rfl) | (simp [*, errW_none, errW_some] <;> rfl), by repeat (first | (with_reducible first | exact HB.out | apply below_alloc | apply pw_below_drewN | apply below_drew1) | exact HB.out)⟩
  · rw [if_neg c4] at H
    exact absurd H (by simp)

-- NOT PRINTED: function 37 (strings_Builder_String)

/-! ### ckpt_Encode: function 14 -/
theorem bld_slice {w : World} {B : Nat} {e : TypeId} {v : Value} {n : Nat} {xs : List Value} (h : w.ownsRowF B e 1 v n xs) : ∃ ao n' cap, v = .slice ao n' cap := by
  rcases h.2 with ⟨hv, _⟩ | ⟨g, cap, cur, fz, hv, _⟩
  · exact ⟨_, _, _, hv⟩
  · exact ⟨_, _, _, hv⟩
theorem bld_info : ∃ i, Try.prog.info? 62 = some i ∧ i.size = 2 := by
  obtain ⟨i, h1, h2⟩ := Option.map_eq_some_iff.1 (show (Try.prog.info? 62).map (·.size) = some 2 by kernel_rfl)
  exact ⟨i, h1, h2⟩
theorem bld_lies : liesAt Try.prog Try.prog.depth 62 (2 / Try.prog.cellsOf 62) 0 62 1 = true := by kernel_rfl
set_option maxHeartbeats 8000000 in
set_option maxRecDepth 100000 in
theorem bld_check_used (b : Nat) (w : World) (h0 : w.cell? ⟨b, 0, none⟩ = some (.pointer (some ⟨b, 0, none⟩))) :
    Calls Try.prog 58 #[.pointer (some ⟨b, 0, none⟩)] w fun e w' => e = .returned (.tuple #[]) ∧ w' = w := by
  obtain ⟨j, hj, _⟩ := bld_info
  have u62 := Try.underlying62
  have u60 := Try.underlying60
  go_enter Try.func58, Try.ntmps58
  go_wp2
  rw [Lib.run_neq_ptr_same w _ Try.underlying60 hj]
  go_wp2
  go_end0
  exact ⟨rfl, rfl⟩
set_option maxHeartbeats 8000000 in
set_option maxRecDepth 100000 in
theorem bld_check_fresh (b : Nat) (w : World) (h0 : w.cell? ⟨b, 0, none⟩ = some (.pointer none)) (hsh : w.shape? b = some (62, 2)) (hfz : w.frozen? ⟨b, 0, none⟩ = false) :
    Calls Try.prog 58 #[.pointer (some ⟨b, 0, none⟩)] w fun e w' => e = .returned (.tuple #[]) ∧ w' = w.setCell ⟨b, 0, none⟩ (.pointer (some ⟨b, 0, none⟩)) := by
  obtain ⟨j, hj, hjs⟩ := bld_info
  have u62 := Try.underlying62
  have u60 := Try.underlying60
  go_enter Try.func58, Try.ntmps58
  go_wp2
  rw [Lib.run_to_unsafe w ⟨b, 0, none⟩ Try.underlying60 Try.underlying100 hj (by rw [hjs]; decide) hsh (Nat.zero_lt_succ 1)]
  simp only [Result.andThen]
  rw [Oper.upon_value]
  go_wp2
  rw [run_callFunc_extern Try.func63 (by kernel_rfl) (by kernel_rfl) (by kernel_rfl) (e := Extern.AbiNoEscape.same) (by kernel_rfl)]
  rw [Lib.run_noEscape]
  simp only [Result.andThen]
  rw [Oper.upon_value]
  go_wp2
  rw [Lib.run_from_unsafe w ⟨b, 0, none⟩ Try.underlying100 Try.underlying60 hj hsh bld_lies]
  simp only [Result.andThen]
  rw [Oper.upon_value]
  go_wp2
  go_end0
  exact ⟨rfl, rfl⟩
theorem bld_check (B b : Nat) (bs : List Value) (w : World) (h : Lib.IsBuilderF 62 5 B b bs w) :
    Calls Try.prog 58 #[.pointer (some ⟨b, 0, none⟩)] w fun e w' => e = .returned (.tuple #[]) ∧ Lib.BuilderAtF 62 5 B b (.pointer (some ⟨b, 0, none⟩)) bs w' ∧ Below B w w' ∧ Lib.OthersKept 5 (some b) w w' := by
  rcases h with h | h
  · refine (bld_check_fresh b w h.cell0 h.shape h.frozen0).mono ?_
    rintro e w' ⟨rfl, rfl⟩
    exact ⟨rfl, h.used _, (Below.refl B w).setCell (p := ⟨b, 0, none⟩) h.1 _, (Lib.OthersKept.refl _ _ w).setCell ⟨b, 0, none⟩ rfl _⟩
  · refine (bld_check_used b w h.cell0).mono ?_
    rintro e w' ⟨rfl, rfl⟩
    exact ⟨rfl, h, Below.refl B _, Lib.OthersKept.refl _ _ _⟩
set_option maxHeartbeats 8000000 in
set_option maxRecDepth 100000 in
theorem bld_write (B b : Nat) (bs : List Value) (s : ByteArray) (w : World) (h : Lib.IsBuilderF 62 5 B b bs w) (hlen : bs.length + s.size ≤ 140737488355328) (hBw : B ≤ w.heap.size) :
    Calls Try.prog 33 #[.pointer (some ⟨b, 0, none⟩), .string s] w fun e w' => e = .returned (.tuple #[.int .i64 s.size, .nilIface]) ∧ Lib.BuilderAtF 62 5 B b (.pointer (some ⟨b, 0, none⟩)) (bs ++ Lib.strCells s) w' ∧ Below B w w' ∧ Lib.OthersKept 5 (some b) w w' := by
  obtain ⟨i0, hi, hz0, hz1, hz2⟩ := info_parts (show (Try.prog.info? 5).map (fun i => (i.zero, i.size, i.bytes)) = some (some (.int .u8 0), 1, 1) by kernel_rfl)
  have u62 := Try.underlying62
  have u60 := Try.underlying60
  have u49 := Try.underlying49
  have u9 := Try.underlying9
  go_enter Try.func33, Try.ntmps33
  go_wp2_with (first | ((with_reducible refine gate_callee (f := 58) rfl ?_); refine goesL_ (some 7) rfl rfl Try.func58 (by kernel_rfl) rfl #[.pointer (some ⟨b, 0, none⟩)] rfl (by (try simp only [List.map_toArray, List.map_cons, List.map_nil]); first | done | rfl) ?_; refine (bld_check B b bs _ h).mono ?_; rintro e w1 ⟨rfl, h1, hb1, hk1⟩; refine ⟨_, rfl, ?_⟩; obtain ⟨hB, v, hbk, hown, hne⟩ := h1; have c0 : w1.cell? ⟨b, 0, none⟩ = some (.pointer (some ⟨b, 0, none⟩)) := (blk_cell hbk 0).trans rfl; have c1 : w1.cell? ⟨b, 1, none⟩ = some v := (blk_cell hbk 1).trans rfl) | ((with_reducible refine gate_builtin (b := .append) (xs := #[.tmp 12, .tmp 13]) rfl ?_); at_builtin; refine Lib.wpList_append_own_stringF _ rfl _ _ 49 9 rfl B 5 i0 Try.underlying49 Try.underlying9 hi hz0 hz1 hz2 _ _ _ rfl hown s rfl ?c3 ?c4 ?c5 ?_; (case c3 => unfold maxLen; omega); (case c4 => omega); (case c5 => have := hb1.size; omega); intro v' w2 hown' hgrow _; have hlt := blk_lt hbk; have hb2 : w2.heap[b]? = some (.cells #[.pointer (some ⟨b, 0, none⟩), v] 62 (0, 0)) := (by rw [hgrow.block b hlt (fun e => hne e.symm)]; exact hbk); clear c0 c1; have d0 : w2.cell? ⟨b, 0, none⟩ = some (.pointer (some ⟨b, 0, none⟩)) := (blk_cell hb2 0).trans rfl; have d1 : w2.cell? ⟨b, 1, none⟩ = some v := (blk_cell hb2 1).trans rfl; have f1 : w2.frozen? ⟨b, 1, none⟩ = false := blk_frozen hb2 1; obtain ⟨ao, n', cap, e_⟩ : ∃ ao n' cap, v' = .slice ao n' cap := bld_slice hown'; subst e_))
  go_ret2
  refine ⟨rfl, ?_, ?_, (hk1.grown hgrow (Lib.ownsRowF_kind hown)).setCell ⟨b, 1, none⟩ rfl _⟩
  · exact Lib.BuilderAtF.put (T := 62) (e := 5) hB hb2 (bs' := bs ++ Lib.strCells s) (by simpa [Lib.strCells_length] using hown') (by decide)
  · exact (hb1.grown hgrow (by have := hb1.size; omega) (fun k hk => (hown.lt k hk).1)).setCell (p := ⟨b, 1, none⟩) hB _
def bld_ren : Go.Shelf.Ren := { f := fun x => if x = 169 then 37 else x, t := fun x => if x = 70 then 60 else if x = 72 then 62 else if x = 37 then 49 else if x = 127 then 94 else x, g := fun x => x }
theorem bld_lays : Lays.n169 Try.prog bld_ren where
  mixed := by kernel_rfl
  f169 := Try.func37.trans (by kernel_rfl)
  t0 := Try.underlying0
  a0 := Try.isAgg0
  z0 := Try.sizeOf0
  v0 := Try.zeroValue0
  t3 := Try.underlying3
  a3 := Try.isAgg3
  z3 := Try.sizeOf3
  v3 := Try.zeroValue3
  t9 := Try.underlying9
  a9 := Try.isAgg9
  z9 := Try.sizeOf9
  v9 := Try.zeroValue9
  t37 := Try.underlying49
  a37 := Try.isAgg49
  z37 := Try.sizeOf49
  v37 := Try.zeroValue49
  t70 := Try.underlying60
  a70 := Try.isAgg60
  z70 := Try.sizeOf60
  v70 := Try.zeroValue60
  t72 := Try.underlying62
  a72 := Try.isAgg62
  z72 := Try.sizeOf62
  v72 := Try.zeroValue62
  t127 := Try.underlying94
  a127 := Try.isAgg94
  z127 := Try.sizeOf94
  v127 := Try.zeroValue94
theorem bld_extra : Builder.Extra Try.prog bld_ren where
  sizeBuilder := by kernel_rfl
  liesBuilder := by kernel_rfl
  t5 := Try.underlying5
  a5 := Try.isAgg5
  z5 := Try.sizeOf5
  v5 := Try.zeroValue5
  infoByte := by kernel_rfl
  cellsByte := by kernel_rfl
  sizeByte := by kernel_rfl
  neB5 := by decide
theorem bld_string (B b : Nat) (s : ByteArray) (w : World) (h : Lib.BuilderAtF 62 5 B b (.pointer (some ⟨b, 0, none⟩)) (Lib.strCells s) w) (hBw : B ≤ w.heap.size) :
    Calls Try.prog 37 #[.pointer (some ⟨b, 0, none⟩)] w fun e w' => e = .returned (.string s) ∧ Below B w w' ∧ Lib.OthersKept 5 (some b) w w' := by
  have hh := Any.Builder_String_any_k bld_lays bld_extra B b s.data.toList w (.inr h) hBw
  refine hh.mono ?_
  rintro e w' ⟨rfl, _, h2, h3⟩
  exact ⟨by simp, h2, h3⟩

theorem idx8_0 (z0 z1 z2 z3 z4 z5 z6 z7 : Int) (W : World) : (Instr.index 67 (.agg #[.int .i64 z0, .int .i64 z1, .int .i64 z2, .int .i64 z3, .int .i64 z4, .int .i64 z5, .int .i64 z6, .int .i64 z7]) (.int .i64 0)).run Try.prog W = .ok (.int .i64 z0) W := by kernel_rfl
theorem idx8_1 (z0 z1 z2 z3 z4 z5 z6 z7 : Int) (W : World) : (Instr.index 67 (.agg #[.int .i64 z0, .int .i64 z1, .int .i64 z2, .int .i64 z3, .int .i64 z4, .int .i64 z5, .int .i64 z6, .int .i64 z7]) (.int .i64 1)).run Try.prog W = .ok (.int .i64 z1) W := by kernel_rfl
theorem idx8_2 (z0 z1 z2 z3 z4 z5 z6 z7 : Int) (W : World) : (Instr.index 67 (.agg #[.int .i64 z0, .int .i64 z1, .int .i64 z2, .int .i64 z3, .int .i64 z4, .int .i64 z5, .int .i64 z6, .int .i64 z7]) (.int .i64 2)).run Try.prog W = .ok (.int .i64 z2) W := by kernel_rfl
theorem idx8_3 (z0 z1 z2 z3 z4 z5 z6 z7 : Int) (W : World) : (Instr.index 67 (.agg #[.int .i64 z0, .int .i64 z1, .int .i64 z2, .int .i64 z3, .int .i64 z4, .int .i64 z5, .int .i64 z6, .int .i64 z7]) (.int .i64 3)).run Try.prog W = .ok (.int .i64 z3) W := by kernel_rfl
theorem idx8_4 (z0 z1 z2 z3 z4 z5 z6 z7 : Int) (W : World) : (Instr.index 67 (.agg #[.int .i64 z0, .int .i64 z1, .int .i64 z2, .int .i64 z3, .int .i64 z4, .int .i64 z5, .int .i64 z6, .int .i64 z7]) (.int .i64 4)).run Try.prog W = .ok (.int .i64 z4) W := by kernel_rfl
theorem idx8_5 (z0 z1 z2 z3 z4 z5 z6 z7 : Int) (W : World) : (Instr.index 67 (.agg #[.int .i64 z0, .int .i64 z1, .int .i64 z2, .int .i64 z3, .int .i64 z4, .int .i64 z5, .int .i64 z6, .int .i64 z7]) (.int .i64 5)).run Try.prog W = .ok (.int .i64 z5) W := by kernel_rfl
theorem idx8_6 (z0 z1 z2 z3 z4 z5 z6 z7 : Int) (W : World) : (Instr.index 67 (.agg #[.int .i64 z0, .int .i64 z1, .int .i64 z2, .int .i64 z3, .int .i64 z4, .int .i64 z5, .int .i64 z6, .int .i64 z7]) (.int .i64 6)).run Try.prog W = .ok (.int .i64 z6) W := by kernel_rfl
theorem idx8_7 (z0 z1 z2 z3 z4 z5 z6 z7 : Int) (W : World) : (Instr.index 67 (.agg #[.int .i64 z0, .int .i64 z1, .int .i64 z2, .int .i64 z3, .int .i64 z4, .int .i64 z5, .int .i64 z6, .int .i64 z7]) (.int .i64 7)).run Try.prog W = .ok (.int .i64 z7) W := by kernel_rfl
theorem bld_below {T e : TypeId} {B b : Nat} {p : Value} {bs : List Value} {W W' : World} (h : Lib.BuilderAtF T e B b p bs W) (hb : Below W.heap.size W W') : Lib.BuilderAtF T e B b p bs W' := by
  obtain ⟨hB, v, hk, hown, hne⟩ := h
  refine ⟨hB, v, blk_below hk hb, ?_, hne⟩
  obtain ⟨h1, h2⟩ := hown
  refine ⟨h1, ?_⟩
  rcases h2 with h2 | ⟨g, cap, cur, fz, hv, hg, hh, r⟩
  · exact .inl h2
  · exact .inr ⟨g, cap, cur, fz, hv, hg, blk_below hh hb, r⟩
/-- While Encode writes: the model's box, the configuration's, the builder; all else below as it was. -/
structure EnB (w : World) (gb gc : Nat) (cm cc : Array Value) (s : ByteArray) (W : World) : Prop where
  b1 : W.heap[w.heap.size]? = some (.cells cm 29 (0, 0))
  b2 : W.heap[gc]? = some (.cells cc 23 (0, 0))
  bd : Lib.BuilderAtF 62 5 gb gb (.pointer (some ⟨gb, 0, none⟩)) (Lib.strCells s) W
  bl : Below w.heap.size w W
  ord : w.heap.size < gb
  ord2 : gb < gc
theorem EnB.below {w W W1 : World} {gb gc : Nat} {cm cc : Array Value} {s : ByteArray} (h : EnB w gb gc cm cc s W) (hb : Below W.heap.size W W1) : EnB w gb gc cm cc s W1 := ⟨blk_below h.b1 hb, blk_below h.b2 hb, bld_below h.bd hb, below_step h.bl hb, h.ord, h.ord2⟩
theorem EnB.wrote {w W W1 : World} {gb gc : Nat} {cm cc : Array Value} {s t : ByteArray} (h : EnB w gb gc cm cc s W) (hd : Lib.BuilderAtF 62 5 gb gb (.pointer (some ⟨gb, 0, none⟩)) (Lib.strCells s ++ Lib.strCells t) W1) (hb : Below gb W W1) (hk : Lib.OthersKept 5 (some gb) W W1) : EnB w gb gc cm cc (s ++ t) W1 := by
  have e : Lib.strCells (s ++ t) = Lib.strCells s ++ Lib.strCells t := by simp [Lib.strCells]
  refine ⟨(hb.block _ h.ord).trans h.b1, hk gc _ h.b2 (fun e => by have := Option.some.inj e; have := h.ord2; omega) (fun c fz e => by injection e with _ e; exact absurd e (by decide)), by rw [e]; exact hd, h.bl.trans ⟨hb.os, hb.tape, hb.output, hb.size, fun i hi => hb.block i (Nat.lt_trans hi h.ord)⟩, h.ord, h.ord2⟩
def encT (l : List ByteArray) (n : Nat) : ByteArray := (l.take n).foldl (fun a b => a ++ b) (⟨#[65, 86]⟩ : ByteArray)
def ckpt_Encode.g (k : Nat) (a0_0 : Int) (a0_1 : Int) (a0_2 : Int) (a0_3 : Int) (a0_4 : Int) (a0_5 : Int) (a0_6 : Int) (a0_7 : Int) (l0_8 : List Int) (l0_9 : List S59) (l0_10 : List Int) (l0_11 : List Int) : Option (ByteArray × Int) := (bytes_Two.f a0_0).bind fun s0 => ((bytes_Two.f a0_1).bind fun s1 => ((bytes_Two.f a0_2).bind fun s2 => ((bytes_Two.f a0_3).bind fun s3 => ((bytes_Two.f a0_4).bind fun s4 => ((bytes_Two.f a0_5).bind fun s5 => ((bytes_Two.f a0_6).bind fun s6 => ((bytes_Two.f a0_7).bind fun s7 => ((ckpt_Flat.f k a0_0 a0_1 a0_2 a0_3 a0_4 a0_5 a0_6 a0_7 l0_8 l0_9 l0_10 l0_11).bind fun l => (bytes_Weights.f k l).bind fun ws => (if (encT [s0, s1, s2, s3, s4, s5, s6, s7] 8 ++ ws).size ≤ 140737488355328 then ((bytes_Seal.f k (encT [s0, s1, s2, s3, s4, s5, s6, s7] 8 ++ ws)).bind fun r => some (r, 0)) else none)))))))))
def ckpt_Encode.f (k : Nat) (a0_0 : Int) (a0_1 : Int) (a0_2 : Int) (a0_3 : Int) (a0_4 : Int) (a0_5 : Int) (a0_6 : Int) (a0_7 : Int) (l0_8 : List Int) (l0_9 : List S59) (l0_10 : List Int) (l0_11 : List Int) : Option (ByteArray × Int) := (ckpt_Check.f k a0_0 a0_1 a0_2 a0_3 a0_4 a0_5 a0_6 a0_7 l0_8 l0_9 l0_10 l0_11).bind fun t => (if t = 0 then (ckpt_Encode.g k a0_0 a0_1 a0_2 a0_3 a0_4 a0_5 a0_6 a0_7 l0_8 l0_9 l0_10 l0_11) else (some (⟨#[]⟩, t)))
theorem ckpt_Encode.mono : ∀ a0 a1 a2 a3 a4 a5 a6 a7 a8 a9 a10 a11 k, LeO (ckpt_Encode.f k a0 a1 a2 a3 a4 a5 a6 a7 a8 a9 a10 a11) (ckpt_Encode.f (k + 1) a0 a1 a2 a3 a4 a5 a6 a7 a8 a9 a10 a11) := by
  intro a0 a1 a2 a3 a4 a5 a6 a7 a8 a9 a10 a11 k
  unfold ckpt_Encode.f ckpt_Encode.g
  repeat' first
      | (with_reducible exact LeO.refl _)
      | (with_reducible exact LeO.none _)
      | (with_reducible refine LeO.ite ?_ ?_)
      | (with_reducible exact ckpt_Check.mono _ _ _ _ _ _ _ _ _ _ _ _ _)
      | (with_reducible exact ckpt_Flat.mono _ _ _ _ _ _ _ _ _ _ _ _ _)
      | (with_reducible exact bytes_Weights.mono _ _)
      | (with_reducible exact bytes_Seal.mono _ _)
      | (with_reducible refine LeO.bind ?_ (fun _ => ?_))
theorem enc_parts {k : Nat} {a0_0 a0_1 a0_2 a0_3 a0_4 a0_5 a0_6 a0_7 : Int} {l0_8 : List Int} {l0_9 : List S59} {l0_10 l0_11 : List Int} {r : ByteArray × Int} (h : ckpt_Encode.g k a0_0 a0_1 a0_2 a0_3 a0_4 a0_5 a0_6 a0_7 l0_8 l0_9 l0_10 l0_11 = some r) :
    ∃ s0 s1 s2 s3 s4 s5 s6 s7 l ws, bytes_Two.f a0_0 = some s0 ∧ bytes_Two.f a0_1 = some s1 ∧ bytes_Two.f a0_2 = some s2 ∧ bytes_Two.f a0_3 = some s3 ∧ bytes_Two.f a0_4 = some s4 ∧ bytes_Two.f a0_5 = some s5 ∧ bytes_Two.f a0_6 = some s6 ∧ bytes_Two.f a0_7 = some s7 ∧ ckpt_Flat.f k a0_0 a0_1 a0_2 a0_3 a0_4 a0_5 a0_6 a0_7 l0_8 l0_9 l0_10 l0_11 = some l ∧ bytes_Weights.f k l = some ws ∧ (encT [s0, s1, s2, s3, s4, s5, s6, s7] 8 ++ ws).size ≤ 140737488355328 ∧ bytes_Seal.f k (encT [s0, s1, s2, s3, s4, s5, s6, s7] 8 ++ ws) = some r.1 ∧ r.2 = 0 := by
  unfold ckpt_Encode.g at h
  obtain ⟨s0, h0, h⟩ := Option.bind_eq_some_iff.mp h
  obtain ⟨s1, h1, h⟩ := Option.bind_eq_some_iff.mp h
  obtain ⟨s2, h2, h⟩ := Option.bind_eq_some_iff.mp h
  obtain ⟨s3, h3, h⟩ := Option.bind_eq_some_iff.mp h
  obtain ⟨s4, h4, h⟩ := Option.bind_eq_some_iff.mp h
  obtain ⟨s5, h5, h⟩ := Option.bind_eq_some_iff.mp h
  obtain ⟨s6, h6, h⟩ := Option.bind_eq_some_iff.mp h
  obtain ⟨s7, h7, h⟩ := Option.bind_eq_some_iff.mp h
  obtain ⟨l, hl, h⟩ := Option.bind_eq_some_iff.mp h
  obtain ⟨ws, hw, h⟩ := Option.bind_eq_some_iff.mp h
  by_cases c : (encT [s0, s1, s2, s3, s4, s5, s6, s7] 8 ++ ws).size ≤ 140737488355328
  · rw [if_pos c] at h
    obtain ⟨x, hx, h⟩ := Option.bind_eq_some_iff.mp h
    obtain rfl := Option.some.inj h
    exact ⟨s0, s1, s2, s3, s4, s5, s6, s7, l, ws, h0, h1, h2, h3, h4, h5, h6, h7, hl, hw, c, hx, rfl⟩
  · rw [if_neg c] at h
    exact absurd h (by simp)
theorem enb_old {w w2 : World} {gb : Nat} {cm cc : Array Value} {s : ByteArray} (h : EnB w gb w2.heap.size cm cc s (w2.alloc (.cells cc 23))) (i : Nat) : w2.cell? ⟨w.heap.size, i, none⟩ = (w2.alloc (.cells cc 23)).cell? ⟨w.heap.size, i, none⟩ :=
  (cell_heap (p := ⟨w.heap.size, i, none⟩) ((below_alloc (Below.refl w2.heap.size w2) (.cells cc 23)).block _ (Nat.lt_trans h.ord h.ord2))).symm
theorem enb_start {w w1 w2 : World} {cm cc : Array Value} (h : CkOne w w.heap.size 29 cm w1) (hd : Lib.BuilderAtF 62 5 w1.heap.size w1.heap.size (.pointer (some ⟨w1.heap.size, 0, none⟩)) ([] ++ Lib.strCells (⟨#[65, 86]⟩ : ByteArray)) w2) (hb : Below w1.heap.size (w1.alloc (.cells #[.pointer none, .slice none 0 0] 62)) w2) : EnB w w1.heap.size w2.heap.size cm cc (⟨#[65, 86]⟩ : ByteArray) (w2.alloc (.cells cc 23)) := by
  have h0 := below_alloc (Below.refl w1.heap.size w1) (.cells #[.pointer none, .slice none 0 0] 62)
  have h1 : Below w1.heap.size w1 w2 := h0.trans hb
  exact ⟨blk_alloc (blk_below h.b1 h1) _, blk_new w2 _, hd.alloc _, below_alloc (below_step h.bl h1) _, blk_lt h.b1, hd.lt⟩
set_option maxHeartbeats 8000000 in
set_option maxRecDepth 100000 in
theorem ckpt_Encode.calls (k : Nat) (a0_0 : Int) (a0_1 : Int) (a0_2 : Int) (a0_3 : Int) (a0_4 : Int) (a0_5 : Int) (a0_6 : Int) (a0_7 : Int) (A0_8 : Option Addr) (c0_8 : Nat) (l0_8 : List Int) (A0_9 : Option Addr) (c0_9 : Nat) (l0_9 : List S59) (A0_10 : Option Addr) (c0_10 : Nat) (l0_10 : List Int) (A0_11 : Option Addr) (c0_11 : Nat) (l0_11 : List Int) (r1 : ByteArray) (r2 : Int) (w : World) (hr0_8 : Kd.C (Kd.int .i8) w A0_8 l0_8.length l0_8) (hc0_8 : l0_8.length ≤ c0_8) (hr0_9 : Kd.C k59 w A0_9 l0_9.length l0_9) (hc0_9 : l0_9.length ≤ c0_9) (hr0_10 : Kd.C (Kd.int .i8) w A0_10 l0_10.length l0_10) (hc0_10 : l0_10.length ≤ c0_10) (hr0_11 : Kd.C (Kd.int .i8) w A0_11 l0_11.length l0_11) (hc0_11 : l0_11.length ≤ c0_11) (h : ckpt_Encode.f k a0_0 a0_1 a0_2 a0_3 a0_4 a0_5 a0_6 a0_7 l0_8 l0_9 l0_10 l0_11 = some (r1, r2)) :
    Calls Try.prog 14 #[.agg #[.int .i64 a0_0, .int .i64 a0_1, .int .i64 a0_2, .int .i64 a0_3, .int .i64 a0_4, .int .i64 a0_5, .int .i64 a0_6, .int .i64 a0_7, .slice A0_8 l0_8.length c0_8, .slice A0_9 l0_9.length c0_9, .slice A0_10 l0_10.length c0_10, .slice A0_11 l0_11.length c0_11]] w fun e w' => e = .returned (.tuple #[.string r1, .int .i64 r2]) ∧ Below w.heap.size w w' := by
  have hu29 := Try.underlying29
  have hu23 := Try.underlying23
  have HR8 := Aside0.mk hr0_8
  have HR9 := Aside0.mk hr0_9
  have HR10 := Aside0.mk hr0_10
  have HR11 := Aside0.mk hr0_11
  have HC := Aside0.mk (And.intro hc0_8 (And.intro hc0_9 (And.intro hc0_10 hc0_11)))
  clear hr0_8 hc0_8 hr0_9 hc0_9 hr0_10 hc0_10 hr0_11 hc0_11
  have HI0 : Aside0 (CkOne w w.heap.size 29 #[.int .i64 a0_0, .int .i64 a0_1, .int .i64 a0_2, .int .i64 a0_3, .int .i64 a0_4, .int .i64 a0_5, .int .i64 a0_6, .int .i64 a0_7, .slice A0_8 l0_8.length c0_8, .slice A0_9 l0_9.length c0_9, .slice A0_10 l0_10.length c0_10, .slice A0_11 l0_11.length c0_11] (w.alloc (.cells #[.int .i64 a0_0, .int .i64 a0_1, .int .i64 a0_2, .int .i64 a0_3, .int .i64 a0_4, .int .i64 a0_5, .int .i64 a0_6, .int .i64 a0_7, .slice A0_8 l0_8.length c0_8, .slice A0_9 l0_9.length c0_9, .slice A0_10 l0_10.length c0_10, .slice A0_11 l0_11.length c0_11] 29))) := ⟨blk_new w _, below_alloc (Below.refl _ _) _, Nat.le_refl _⟩
  obtain ⟨t, ht, H⟩ := Option.bind_eq_some_iff.mp h
  clear h
  have HT := Aside0.mk ht
  clear ht
  by_cases c0 : t = 0
  · subst c0
    rw [if_pos rfl] at H
    obtain ⟨s0, s1, s2, s3, s4, s5, s6, s7, l, ws, q0, q1, q2, q3, q4, q5, q6, q7, ql, qw, hz, qs, qr⟩ := enc_parts H
    simp only at qs qr
    subst qr
    have S0 := Aside0.mk q0
    have S1 := Aside0.mk q1
    have S2 := Aside0.mk q2
    have S3 := Aside0.mk q3
    have S4 := Aside0.mk q4
    have S5 := Aside0.mk q5
    have S6 := Aside0.mk q6
    have S7 := Aside0.mk q7
    have SL_ := Aside0.mk ql
    have SW := Aside0.mk qw
    have SZ := Aside0.mk hz
    have SS := Aside0.mk qs
    clear q0 q1 q2 q3 q4 q5 q6 q7 ql qw hz qs H
    go_enter Try.func14, Try.ntmps14
    have hm0 : (w.alloc (.cells #[.int .i64 a0_0, .int .i64 a0_1, .int .i64 a0_2, .int .i64 a0_3, .int .i64 a0_4, .int .i64 a0_5, .int .i64 a0_6, .int .i64 a0_7, .slice A0_8 l0_8.length c0_8, .slice A0_9 l0_9.length c0_9, .slice A0_10 l0_10.length c0_10, .slice A0_11 l0_11.length c0_11] 29)).cell? ⟨w.heap.size, 0, none⟩ = some (.int .i64 a0_0) := (blk_cell HI0.out.b1 0).trans rfl
    have hm1 : (w.alloc (.cells #[.int .i64 a0_0, .int .i64 a0_1, .int .i64 a0_2, .int .i64 a0_3, .int .i64 a0_4, .int .i64 a0_5, .int .i64 a0_6, .int .i64 a0_7, .slice A0_8 l0_8.length c0_8, .slice A0_9 l0_9.length c0_9, .slice A0_10 l0_10.length c0_10, .slice A0_11 l0_11.length c0_11] 29)).cell? ⟨w.heap.size, 1, none⟩ = some (.int .i64 a0_1) := (blk_cell HI0.out.b1 1).trans rfl
    have hm2 : (w.alloc (.cells #[.int .i64 a0_0, .int .i64 a0_1, .int .i64 a0_2, .int .i64 a0_3, .int .i64 a0_4, .int .i64 a0_5, .int .i64 a0_6, .int .i64 a0_7, .slice A0_8 l0_8.length c0_8, .slice A0_9 l0_9.length c0_9, .slice A0_10 l0_10.length c0_10, .slice A0_11 l0_11.length c0_11] 29)).cell? ⟨w.heap.size, 2, none⟩ = some (.int .i64 a0_2) := (blk_cell HI0.out.b1 2).trans rfl
    have hm3 : (w.alloc (.cells #[.int .i64 a0_0, .int .i64 a0_1, .int .i64 a0_2, .int .i64 a0_3, .int .i64 a0_4, .int .i64 a0_5, .int .i64 a0_6, .int .i64 a0_7, .slice A0_8 l0_8.length c0_8, .slice A0_9 l0_9.length c0_9, .slice A0_10 l0_10.length c0_10, .slice A0_11 l0_11.length c0_11] 29)).cell? ⟨w.heap.size, 3, none⟩ = some (.int .i64 a0_3) := (blk_cell HI0.out.b1 3).trans rfl
    have hm4 : (w.alloc (.cells #[.int .i64 a0_0, .int .i64 a0_1, .int .i64 a0_2, .int .i64 a0_3, .int .i64 a0_4, .int .i64 a0_5, .int .i64 a0_6, .int .i64 a0_7, .slice A0_8 l0_8.length c0_8, .slice A0_9 l0_9.length c0_9, .slice A0_10 l0_10.length c0_10, .slice A0_11 l0_11.length c0_11] 29)).cell? ⟨w.heap.size, 4, none⟩ = some (.int .i64 a0_4) := (blk_cell HI0.out.b1 4).trans rfl
    have hm5 : (w.alloc (.cells #[.int .i64 a0_0, .int .i64 a0_1, .int .i64 a0_2, .int .i64 a0_3, .int .i64 a0_4, .int .i64 a0_5, .int .i64 a0_6, .int .i64 a0_7, .slice A0_8 l0_8.length c0_8, .slice A0_9 l0_9.length c0_9, .slice A0_10 l0_10.length c0_10, .slice A0_11 l0_11.length c0_11] 29)).cell? ⟨w.heap.size, 5, none⟩ = some (.int .i64 a0_5) := (blk_cell HI0.out.b1 5).trans rfl
    have hm6 : (w.alloc (.cells #[.int .i64 a0_0, .int .i64 a0_1, .int .i64 a0_2, .int .i64 a0_3, .int .i64 a0_4, .int .i64 a0_5, .int .i64 a0_6, .int .i64 a0_7, .slice A0_8 l0_8.length c0_8, .slice A0_9 l0_9.length c0_9, .slice A0_10 l0_10.length c0_10, .slice A0_11 l0_11.length c0_11] 29)).cell? ⟨w.heap.size, 6, none⟩ = some (.int .i64 a0_6) := (blk_cell HI0.out.b1 6).trans rfl
    have hm7 : (w.alloc (.cells #[.int .i64 a0_0, .int .i64 a0_1, .int .i64 a0_2, .int .i64 a0_3, .int .i64 a0_4, .int .i64 a0_5, .int .i64 a0_6, .int .i64 a0_7, .slice A0_8 l0_8.length c0_8, .slice A0_9 l0_9.length c0_9, .slice A0_10 l0_10.length c0_10, .slice A0_11 l0_11.length c0_11] 29)).cell? ⟨w.heap.size, 7, none⟩ = some (.int .i64 a0_7) := (blk_cell HI0.out.b1 7).trans rfl
    have hm8 : (w.alloc (.cells #[.int .i64 a0_0, .int .i64 a0_1, .int .i64 a0_2, .int .i64 a0_3, .int .i64 a0_4, .int .i64 a0_5, .int .i64 a0_6, .int .i64 a0_7, .slice A0_8 l0_8.length c0_8, .slice A0_9 l0_9.length c0_9, .slice A0_10 l0_10.length c0_10, .slice A0_11 l0_11.length c0_11] 29)).cell? ⟨w.heap.size, 8, none⟩ = some (.slice A0_8 l0_8.length c0_8) := (blk_cell HI0.out.b1 8).trans rfl
    have hm9 : (w.alloc (.cells #[.int .i64 a0_0, .int .i64 a0_1, .int .i64 a0_2, .int .i64 a0_3, .int .i64 a0_4, .int .i64 a0_5, .int .i64 a0_6, .int .i64 a0_7, .slice A0_8 l0_8.length c0_8, .slice A0_9 l0_9.length c0_9, .slice A0_10 l0_10.length c0_10, .slice A0_11 l0_11.length c0_11] 29)).cell? ⟨w.heap.size, 9, none⟩ = some (.slice A0_9 l0_9.length c0_9) := (blk_cell HI0.out.b1 9).trans rfl
    have hm10 : (w.alloc (.cells #[.int .i64 a0_0, .int .i64 a0_1, .int .i64 a0_2, .int .i64 a0_3, .int .i64 a0_4, .int .i64 a0_5, .int .i64 a0_6, .int .i64 a0_7, .slice A0_8 l0_8.length c0_8, .slice A0_9 l0_9.length c0_9, .slice A0_10 l0_10.length c0_10, .slice A0_11 l0_11.length c0_11] 29)).cell? ⟨w.heap.size, 10, none⟩ = some (.slice A0_10 l0_10.length c0_10) := (blk_cell HI0.out.b1 10).trans rfl
    have hm11 : (w.alloc (.cells #[.int .i64 a0_0, .int .i64 a0_1, .int .i64 a0_2, .int .i64 a0_3, .int .i64 a0_4, .int .i64 a0_5, .int .i64 a0_6, .int .i64 a0_7, .slice A0_8 l0_8.length c0_8, .slice A0_9 l0_9.length c0_9, .slice A0_10 l0_10.length c0_10, .slice A0_11 l0_11.length c0_11] 29)).cell? ⟨w.heap.size, 11, none⟩ = some (.slice A0_11 l0_11.length c0_11) := (blk_cell HI0.out.b1 11).trans rfl
    go_wp2_with (first | ((with_reducible refine gate_callee (f := 16) rfl ?_); refine goesL_ (some 10) rfl rfl Try.func16 (by kernel_rfl) rfl #[.agg #[.int .i64 a0_0, .int .i64 a0_1, .int .i64 a0_2, .int .i64 a0_3, .int .i64 a0_4, .int .i64 a0_5, .int .i64 a0_6, .int .i64 a0_7, .slice A0_8 l0_8.length c0_8, .slice A0_9 l0_9.length c0_9, .slice A0_10 l0_10.length c0_10, .slice A0_11 l0_11.length c0_11]] rfl (by (try simp only [List.map_toArray, List.map_cons, List.map_nil]); first | done | rfl) ?_; (with_reducible refine (ckpt_Check.calls k a0_0 a0_1 a0_2 a0_3 a0_4 a0_5 a0_6 a0_7 A0_8 c0_8 l0_8 A0_9 c0_9 l0_9 A0_10 c0_10 l0_10 A0_11 c0_11 l0_11 _ _ (Kd.C_below HR8.out HI0.out.bl) HC.out.1 (Kd.C_below HR9.out HI0.out.bl) HC.out.2.1 (Kd.C_below HR10.out HI0.out.bl) HC.out.2.2.1 (Kd.C_below HR11.out HI0.out.bl) HC.out.2.2.2 HT.out).mono ?_); rintro e w1 ⟨rfl, hb⟩; refine ⟨_, rfl, ?_⟩; have HI := Aside0.mk (HI0.out.below hb); clear hb HI0; clear hm0 hm1 hm2 hm3 hm4 hm5 hm6 hm7 hm8 hm9 hm10 hm11) | ((with_reducible refine gate_callee (f := 33) rfl ?_); refine goesL_ (some 14) rfl rfl Try.func33 (by kernel_rfl) rfl #[.pointer (some ⟨w1.heap.size, 0, none⟩), .string (⟨#[65, 86]⟩ : ByteArray)] rfl (by (try simp only [List.map_toArray, List.map_cons, List.map_nil]); first | done | rfl) ?_; refine (bld_write w1.heap.size w1.heap.size [] (⟨#[65, 86]⟩ : ByteArray) _ (Lib.IsBuilderF.of (Lib.fresh_isBuilder 62 5 w1)) (by decide) (by simp)).mono ?_; rintro e w2 ⟨rfl, hd, hb, hk⟩; refine ⟨_, rfl, ?_⟩; have HE : Aside0 (EnB w w1.heap.size w2.heap.size #[.int .i64 a0_0, .int .i64 a0_1, .int .i64 a0_2, .int .i64 a0_3, .int .i64 a0_4, .int .i64 a0_5, .int .i64 a0_6, .int .i64 a0_7, .slice A0_8 l0_8.length c0_8, .slice A0_9 l0_9.length c0_9, .slice A0_10 l0_10.length c0_10, .slice A0_11 l0_11.length c0_11] #[.int .i64 a0_0, .int .i64 a0_1, .int .i64 a0_2, .int .i64 a0_3, .int .i64 a0_4, .int .i64 a0_5, .int .i64 a0_6, .int .i64 a0_7] (⟨#[65, 86]⟩ : ByteArray) (w2.alloc (.cells #[.int .i64 a0_0, .int .i64 a0_1, .int .i64 a0_2, .int .i64 a0_3, .int .i64 a0_4, .int .i64 a0_5, .int .i64 a0_6, .int .i64 a0_7] 23))) := ⟨enb_start HI.out hd hb⟩; clear HI hd hb hk; have hm0 : w2.cell? ⟨w.heap.size, 0, none⟩ = some (.int .i64 a0_0) := (enb_old HE.out 0).trans ((blk_cell HE.out.b1 0).trans rfl); have hm1 : w2.cell? ⟨w.heap.size, 1, none⟩ = some (.int .i64 a0_1) := (enb_old HE.out 1).trans ((blk_cell HE.out.b1 1).trans rfl); have hm2 : w2.cell? ⟨w.heap.size, 2, none⟩ = some (.int .i64 a0_2) := (enb_old HE.out 2).trans ((blk_cell HE.out.b1 2).trans rfl); have hm3 : w2.cell? ⟨w.heap.size, 3, none⟩ = some (.int .i64 a0_3) := (enb_old HE.out 3).trans ((blk_cell HE.out.b1 3).trans rfl); have hm4 : w2.cell? ⟨w.heap.size, 4, none⟩ = some (.int .i64 a0_4) := (enb_old HE.out 4).trans ((blk_cell HE.out.b1 4).trans rfl); have hm5 : w2.cell? ⟨w.heap.size, 5, none⟩ = some (.int .i64 a0_5) := (enb_old HE.out 5).trans ((blk_cell HE.out.b1 5).trans rfl); have hm6 : w2.cell? ⟨w.heap.size, 6, none⟩ = some (.int .i64 a0_6) := (enb_old HE.out 6).trans ((blk_cell HE.out.b1 6).trans rfl); have hm7 : w2.cell? ⟨w.heap.size, 7, none⟩ = some (.int .i64 a0_7) := (enb_old HE.out 7).trans ((blk_cell HE.out.b1 7).trans rfl); have hm8 : w2.cell? ⟨w.heap.size, 8, none⟩ = some (.slice A0_8 l0_8.length c0_8) := (enb_old HE.out 8).trans ((blk_cell HE.out.b1 8).trans rfl); have hm9 : w2.cell? ⟨w.heap.size, 9, none⟩ = some (.slice A0_9 l0_9.length c0_9) := (enb_old HE.out 9).trans ((blk_cell HE.out.b1 9).trans rfl); have hm10 : w2.cell? ⟨w.heap.size, 10, none⟩ = some (.slice A0_10 l0_10.length c0_10) := (enb_old HE.out 10).trans ((blk_cell HE.out.b1 10).trans rfl); have hm11 : w2.cell? ⟨w.heap.size, 11, none⟩ = some (.slice A0_11 l0_11.length c0_11) := (enb_old HE.out 11).trans ((blk_cell HE.out.b1 11).trans rfl); have hq0 : (w2.alloc (.cells #[.int .i64 a0_0, .int .i64 a0_1, .int .i64 a0_2, .int .i64 a0_3, .int .i64 a0_4, .int .i64 a0_5, .int .i64 a0_6, .int .i64 a0_7] 23)).cell? ⟨w2.heap.size, 0, none⟩ = some (.int .i64 a0_0) := (blk_cell HE.out.b2 0).trans rfl; have hq1 : (w2.alloc (.cells #[.int .i64 a0_0, .int .i64 a0_1, .int .i64 a0_2, .int .i64 a0_3, .int .i64 a0_4, .int .i64 a0_5, .int .i64 a0_6, .int .i64 a0_7] 23)).cell? ⟨w2.heap.size, 1, none⟩ = some (.int .i64 a0_1) := (blk_cell HE.out.b2 1).trans rfl; have hq2 : (w2.alloc (.cells #[.int .i64 a0_0, .int .i64 a0_1, .int .i64 a0_2, .int .i64 a0_3, .int .i64 a0_4, .int .i64 a0_5, .int .i64 a0_6, .int .i64 a0_7] 23)).cell? ⟨w2.heap.size, 2, none⟩ = some (.int .i64 a0_2) := (blk_cell HE.out.b2 2).trans rfl; have hq3 : (w2.alloc (.cells #[.int .i64 a0_0, .int .i64 a0_1, .int .i64 a0_2, .int .i64 a0_3, .int .i64 a0_4, .int .i64 a0_5, .int .i64 a0_6, .int .i64 a0_7] 23)).cell? ⟨w2.heap.size, 3, none⟩ = some (.int .i64 a0_3) := (blk_cell HE.out.b2 3).trans rfl; have hq4 : (w2.alloc (.cells #[.int .i64 a0_0, .int .i64 a0_1, .int .i64 a0_2, .int .i64 a0_3, .int .i64 a0_4, .int .i64 a0_5, .int .i64 a0_6, .int .i64 a0_7] 23)).cell? ⟨w2.heap.size, 4, none⟩ = some (.int .i64 a0_4) := (blk_cell HE.out.b2 4).trans rfl; have hq5 : (w2.alloc (.cells #[.int .i64 a0_0, .int .i64 a0_1, .int .i64 a0_2, .int .i64 a0_3, .int .i64 a0_4, .int .i64 a0_5, .int .i64 a0_6, .int .i64 a0_7] 23)).cell? ⟨w2.heap.size, 5, none⟩ = some (.int .i64 a0_5) := (blk_cell HE.out.b2 5).trans rfl; have hq6 : (w2.alloc (.cells #[.int .i64 a0_0, .int .i64 a0_1, .int .i64 a0_2, .int .i64 a0_3, .int .i64 a0_4, .int .i64 a0_5, .int .i64 a0_6, .int .i64 a0_7] 23)).cell? ⟨w2.heap.size, 6, none⟩ = some (.int .i64 a0_6) := (blk_cell HE.out.b2 6).trans rfl; have hq7 : (w2.alloc (.cells #[.int .i64 a0_0, .int .i64 a0_1, .int .i64 a0_2, .int .i64 a0_3, .int .i64 a0_4, .int .i64 a0_5, .int .i64 a0_6, .int .i64 a0_7] 23)).cell? ⟨w2.heap.size, 7, none⟩ = some (.int .i64 a0_7) := (blk_cell HE.out.b2 7).trans rfl))
    obtain ⟨gb, hgb⟩ : ∃ gb, gb = w1.heap.size := ⟨_, rfl⟩
    obtain ⟨gc, hgc⟩ : ∃ gc, gc = w2.heap.size := ⟨_, rfl⟩
    clear hm0 hm1 hm2 hm3 hm4 hm5 hm6 hm7 hm8 hm9 hm10 hm11 hq0 hq1 hq2 hq3 hq4 hq5 hq6 hq7
    rw [← hgb, ← hgc] at HE
    rw [← hgb, ← hgc]
    clear hgb hgc
    generalize w2.alloc _ = w3 at HE ⊢
    go_loopg [34] 8 (fun kq v34 wr => ∃ q : Nat, v34 = .int .i64 (q : Int) ∧ q + kq = 8 ∧ Aside0 (EnB w gb gc #[.int .i64 a0_0, .int .i64 a0_1, .int .i64 a0_2, .int .i64 a0_3, .int .i64 a0_4, .int .i64 a0_5, .int .i64 a0_6, .int .i64 a0_7, .slice A0_8 l0_8.length c0_8, .slice A0_9 l0_9.length c0_9, .slice A0_10 l0_10.length c0_10, .slice A0_11 l0_11.length c0_11] #[.int .i64 a0_0, .int .i64 a0_1, .int .i64 a0_2, .int .i64 a0_3, .int .i64 a0_4, .int .i64 a0_5, .int .i64 a0_6, .int .i64 a0_7] (encT [s0, s1, s2, s3, s4, s5, s6, s7] q) wr))
    case atStart => exact ⟨0, rfl, by omega, HE⟩
    case round =>
      obtain ⟨q, rfl, hqk, HE2⟩ := hrel
      clear HE
      have HE := HE2
      clear HE2
      obtain rfl | rfl | rfl | rfl | rfl | rfl | rfl | rfl | rfl : q = 0 ∨ q = 1 ∨ q = 2 ∨ q = 3 ∨ q = 4 ∨ q = 5 ∨ q = 6 ∨ q = 7 ∨ q = 8 := by omega
      · have ix_ := idx8_0 a0_0 a0_1 a0_2 a0_3 a0_4 a0_5 a0_6 a0_7
        go_wp2_with (first | ((with_reducible refine gate_callee (f := 34) rfl ?_); refine goesL_ (some 38) rfl rfl Try.func34 (by kernel_rfl) rfl #[.int .i64 a0_0] rfl (by (try simp only [List.map_toArray, List.map_cons, List.map_nil]); first | done | rfl) ?_; refine (bytes_Two.calls a0_0 s0 _ S0.out).mono ?_; rintro e w5 ⟨rfl, hb⟩; refine ⟨_, rfl, ?_⟩; have HE2 := Aside0.mk (HE.out.below hb); clear hb HE; have HE := HE2; clear HE2) | ((with_reducible refine gate_callee (f := 33) rfl ?_); refine goesL_ (some 39) rfl rfl Try.func33 (by kernel_rfl) rfl #[.pointer (some ⟨gb, 0, none⟩), .string s0] rfl (by (try simp only [List.map_toArray, List.map_cons, List.map_nil]); first | done | rfl) ?_; refine (bld_write gb gb (Lib.strCells (encT [s0, s1, s2, s3, s4, s5, s6, s7] 0)) s0 _ (.inr HE.out.bd) (by have h := SZ.out; rw [ByteArray.size_append] at h; rw [Lib.strCells_length]; simp only [encT, List.take, List.foldl, ByteArray.size_append] at h ⊢; omega) (Nat.le_of_lt HE.out.bd.lt)).mono ?_; rintro e w6 ⟨rfl, hd, hb, hk⟩; refine ⟨_, rfl, ?_⟩; have HE2 : Aside0 (EnB w gb gc #[.int .i64 a0_0, .int .i64 a0_1, .int .i64 a0_2, .int .i64 a0_3, .int .i64 a0_4, .int .i64 a0_5, .int .i64 a0_6, .int .i64 a0_7, .slice A0_8 l0_8.length c0_8, .slice A0_9 l0_9.length c0_9, .slice A0_10 l0_10.length c0_10, .slice A0_11 l0_11.length c0_11] #[.int .i64 a0_0, .int .i64 a0_1, .int .i64 a0_2, .int .i64 a0_3, .int .i64 a0_4, .int .i64 a0_5, .int .i64 a0_6, .int .i64 a0_7] (encT [s0, s1, s2, s3, s4, s5, s6, s7] 0 ++ s0) w6) := ⟨HE.out.wrote hd hb hk⟩; clear HE hd hb hk; have HE := HE2; clear HE2))
        go_roundg 7
        case measure => omega
        case rel => exact ⟨1, rfl, by omega, HE⟩
      · have ix_ := idx8_1 a0_0 a0_1 a0_2 a0_3 a0_4 a0_5 a0_6 a0_7
        go_wp2_with (first | ((with_reducible refine gate_callee (f := 34) rfl ?_); refine goesL_ (some 38) rfl rfl Try.func34 (by kernel_rfl) rfl #[.int .i64 a0_1] rfl (by (try simp only [List.map_toArray, List.map_cons, List.map_nil]); first | done | rfl) ?_; refine (bytes_Two.calls a0_1 s1 _ S1.out).mono ?_; rintro e w5 ⟨rfl, hb⟩; refine ⟨_, rfl, ?_⟩; have HE2 := Aside0.mk (HE.out.below hb); clear hb HE; have HE := HE2; clear HE2) | ((with_reducible refine gate_callee (f := 33) rfl ?_); refine goesL_ (some 39) rfl rfl Try.func33 (by kernel_rfl) rfl #[.pointer (some ⟨gb, 0, none⟩), .string s1] rfl (by (try simp only [List.map_toArray, List.map_cons, List.map_nil]); first | done | rfl) ?_; refine (bld_write gb gb (Lib.strCells (encT [s0, s1, s2, s3, s4, s5, s6, s7] 1)) s1 _ (.inr HE.out.bd) (by have h := SZ.out; rw [ByteArray.size_append] at h; rw [Lib.strCells_length]; simp only [encT, List.take, List.foldl, ByteArray.size_append] at h ⊢; omega) (Nat.le_of_lt HE.out.bd.lt)).mono ?_; rintro e w6 ⟨rfl, hd, hb, hk⟩; refine ⟨_, rfl, ?_⟩; have HE2 : Aside0 (EnB w gb gc #[.int .i64 a0_0, .int .i64 a0_1, .int .i64 a0_2, .int .i64 a0_3, .int .i64 a0_4, .int .i64 a0_5, .int .i64 a0_6, .int .i64 a0_7, .slice A0_8 l0_8.length c0_8, .slice A0_9 l0_9.length c0_9, .slice A0_10 l0_10.length c0_10, .slice A0_11 l0_11.length c0_11] #[.int .i64 a0_0, .int .i64 a0_1, .int .i64 a0_2, .int .i64 a0_3, .int .i64 a0_4, .int .i64 a0_5, .int .i64 a0_6, .int .i64 a0_7] (encT [s0, s1, s2, s3, s4, s5, s6, s7] 1 ++ s1) w6) := ⟨HE.out.wrote hd hb hk⟩; clear HE hd hb hk; have HE := HE2; clear HE2))
        go_roundg 6
        case measure => omega
        case rel => exact ⟨2, rfl, by omega, HE⟩
      · have ix_ := idx8_2 a0_0 a0_1 a0_2 a0_3 a0_4 a0_5 a0_6 a0_7
        go_wp2_with (first | ((with_reducible refine gate_callee (f := 34) rfl ?_); refine goesL_ (some 38) rfl rfl Try.func34 (by kernel_rfl) rfl #[.int .i64 a0_2] rfl (by (try simp only [List.map_toArray, List.map_cons, List.map_nil]); first | done | rfl) ?_; refine (bytes_Two.calls a0_2 s2 _ S2.out).mono ?_; rintro e w5 ⟨rfl, hb⟩; refine ⟨_, rfl, ?_⟩; have HE2 := Aside0.mk (HE.out.below hb); clear hb HE; have HE := HE2; clear HE2) | ((with_reducible refine gate_callee (f := 33) rfl ?_); refine goesL_ (some 39) rfl rfl Try.func33 (by kernel_rfl) rfl #[.pointer (some ⟨gb, 0, none⟩), .string s2] rfl (by (try simp only [List.map_toArray, List.map_cons, List.map_nil]); first | done | rfl) ?_; refine (bld_write gb gb (Lib.strCells (encT [s0, s1, s2, s3, s4, s5, s6, s7] 2)) s2 _ (.inr HE.out.bd) (by have h := SZ.out; rw [ByteArray.size_append] at h; rw [Lib.strCells_length]; simp only [encT, List.take, List.foldl, ByteArray.size_append] at h ⊢; omega) (Nat.le_of_lt HE.out.bd.lt)).mono ?_; rintro e w6 ⟨rfl, hd, hb, hk⟩; refine ⟨_, rfl, ?_⟩; have HE2 : Aside0 (EnB w gb gc #[.int .i64 a0_0, .int .i64 a0_1, .int .i64 a0_2, .int .i64 a0_3, .int .i64 a0_4, .int .i64 a0_5, .int .i64 a0_6, .int .i64 a0_7, .slice A0_8 l0_8.length c0_8, .slice A0_9 l0_9.length c0_9, .slice A0_10 l0_10.length c0_10, .slice A0_11 l0_11.length c0_11] #[.int .i64 a0_0, .int .i64 a0_1, .int .i64 a0_2, .int .i64 a0_3, .int .i64 a0_4, .int .i64 a0_5, .int .i64 a0_6, .int .i64 a0_7] (encT [s0, s1, s2, s3, s4, s5, s6, s7] 2 ++ s2) w6) := ⟨HE.out.wrote hd hb hk⟩; clear HE hd hb hk; have HE := HE2; clear HE2))
        go_roundg 5
        case measure => omega
        case rel => exact ⟨3, rfl, by omega, HE⟩
      · have ix_ := idx8_3 a0_0 a0_1 a0_2 a0_3 a0_4 a0_5 a0_6 a0_7
        go_wp2_with (first | ((with_reducible refine gate_callee (f := 34) rfl ?_); refine goesL_ (some 38) rfl rfl Try.func34 (by kernel_rfl) rfl #[.int .i64 a0_3] rfl (by (try simp only [List.map_toArray, List.map_cons, List.map_nil]); first | done | rfl) ?_; refine (bytes_Two.calls a0_3 s3 _ S3.out).mono ?_; rintro e w5 ⟨rfl, hb⟩; refine ⟨_, rfl, ?_⟩; have HE2 := Aside0.mk (HE.out.below hb); clear hb HE; have HE := HE2; clear HE2) | ((with_reducible refine gate_callee (f := 33) rfl ?_); refine goesL_ (some 39) rfl rfl Try.func33 (by kernel_rfl) rfl #[.pointer (some ⟨gb, 0, none⟩), .string s3] rfl (by (try simp only [List.map_toArray, List.map_cons, List.map_nil]); first | done | rfl) ?_; refine (bld_write gb gb (Lib.strCells (encT [s0, s1, s2, s3, s4, s5, s6, s7] 3)) s3 _ (.inr HE.out.bd) (by have h := SZ.out; rw [ByteArray.size_append] at h; rw [Lib.strCells_length]; simp only [encT, List.take, List.foldl, ByteArray.size_append] at h ⊢; omega) (Nat.le_of_lt HE.out.bd.lt)).mono ?_; rintro e w6 ⟨rfl, hd, hb, hk⟩; refine ⟨_, rfl, ?_⟩; have HE2 : Aside0 (EnB w gb gc #[.int .i64 a0_0, .int .i64 a0_1, .int .i64 a0_2, .int .i64 a0_3, .int .i64 a0_4, .int .i64 a0_5, .int .i64 a0_6, .int .i64 a0_7, .slice A0_8 l0_8.length c0_8, .slice A0_9 l0_9.length c0_9, .slice A0_10 l0_10.length c0_10, .slice A0_11 l0_11.length c0_11] #[.int .i64 a0_0, .int .i64 a0_1, .int .i64 a0_2, .int .i64 a0_3, .int .i64 a0_4, .int .i64 a0_5, .int .i64 a0_6, .int .i64 a0_7] (encT [s0, s1, s2, s3, s4, s5, s6, s7] 3 ++ s3) w6) := ⟨HE.out.wrote hd hb hk⟩; clear HE hd hb hk; have HE := HE2; clear HE2))
        go_roundg 4
        case measure => omega
        case rel => exact ⟨4, rfl, by omega, HE⟩
      · have ix_ := idx8_4 a0_0 a0_1 a0_2 a0_3 a0_4 a0_5 a0_6 a0_7
        go_wp2_with (first | ((with_reducible refine gate_callee (f := 34) rfl ?_); refine goesL_ (some 38) rfl rfl Try.func34 (by kernel_rfl) rfl #[.int .i64 a0_4] rfl (by (try simp only [List.map_toArray, List.map_cons, List.map_nil]); first | done | rfl) ?_; refine (bytes_Two.calls a0_4 s4 _ S4.out).mono ?_; rintro e w5 ⟨rfl, hb⟩; refine ⟨_, rfl, ?_⟩; have HE2 := Aside0.mk (HE.out.below hb); clear hb HE; have HE := HE2; clear HE2) | ((with_reducible refine gate_callee (f := 33) rfl ?_); refine goesL_ (some 39) rfl rfl Try.func33 (by kernel_rfl) rfl #[.pointer (some ⟨gb, 0, none⟩), .string s4] rfl (by (try simp only [List.map_toArray, List.map_cons, List.map_nil]); first | done | rfl) ?_; refine (bld_write gb gb (Lib.strCells (encT [s0, s1, s2, s3, s4, s5, s6, s7] 4)) s4 _ (.inr HE.out.bd) (by have h := SZ.out; rw [ByteArray.size_append] at h; rw [Lib.strCells_length]; simp only [encT, List.take, List.foldl, ByteArray.size_append] at h ⊢; omega) (Nat.le_of_lt HE.out.bd.lt)).mono ?_; rintro e w6 ⟨rfl, hd, hb, hk⟩; refine ⟨_, rfl, ?_⟩; have HE2 : Aside0 (EnB w gb gc #[.int .i64 a0_0, .int .i64 a0_1, .int .i64 a0_2, .int .i64 a0_3, .int .i64 a0_4, .int .i64 a0_5, .int .i64 a0_6, .int .i64 a0_7, .slice A0_8 l0_8.length c0_8, .slice A0_9 l0_9.length c0_9, .slice A0_10 l0_10.length c0_10, .slice A0_11 l0_11.length c0_11] #[.int .i64 a0_0, .int .i64 a0_1, .int .i64 a0_2, .int .i64 a0_3, .int .i64 a0_4, .int .i64 a0_5, .int .i64 a0_6, .int .i64 a0_7] (encT [s0, s1, s2, s3, s4, s5, s6, s7] 4 ++ s4) w6) := ⟨HE.out.wrote hd hb hk⟩; clear HE hd hb hk; have HE := HE2; clear HE2))
        go_roundg 3
        case measure => omega
        case rel => exact ⟨5, rfl, by omega, HE⟩
      · have ix_ := idx8_5 a0_0 a0_1 a0_2 a0_3 a0_4 a0_5 a0_6 a0_7
        go_wp2_with (first | ((with_reducible refine gate_callee (f := 34) rfl ?_); refine goesL_ (some 38) rfl rfl Try.func34 (by kernel_rfl) rfl #[.int .i64 a0_5] rfl (by (try simp only [List.map_toArray, List.map_cons, List.map_nil]); first | done | rfl) ?_; refine (bytes_Two.calls a0_5 s5 _ S5.out).mono ?_; rintro e w5 ⟨rfl, hb⟩; refine ⟨_, rfl, ?_⟩; have HE2 := Aside0.mk (HE.out.below hb); clear hb HE; have HE := HE2; clear HE2) | ((with_reducible refine gate_callee (f := 33) rfl ?_); refine goesL_ (some 39) rfl rfl Try.func33 (by kernel_rfl) rfl #[.pointer (some ⟨gb, 0, none⟩), .string s5] rfl (by (try simp only [List.map_toArray, List.map_cons, List.map_nil]); first | done | rfl) ?_; refine (bld_write gb gb (Lib.strCells (encT [s0, s1, s2, s3, s4, s5, s6, s7] 5)) s5 _ (.inr HE.out.bd) (by have h := SZ.out; rw [ByteArray.size_append] at h; rw [Lib.strCells_length]; simp only [encT, List.take, List.foldl, ByteArray.size_append] at h ⊢; omega) (Nat.le_of_lt HE.out.bd.lt)).mono ?_; rintro e w6 ⟨rfl, hd, hb, hk⟩; refine ⟨_, rfl, ?_⟩; have HE2 : Aside0 (EnB w gb gc #[.int .i64 a0_0, .int .i64 a0_1, .int .i64 a0_2, .int .i64 a0_3, .int .i64 a0_4, .int .i64 a0_5, .int .i64 a0_6, .int .i64 a0_7, .slice A0_8 l0_8.length c0_8, .slice A0_9 l0_9.length c0_9, .slice A0_10 l0_10.length c0_10, .slice A0_11 l0_11.length c0_11] #[.int .i64 a0_0, .int .i64 a0_1, .int .i64 a0_2, .int .i64 a0_3, .int .i64 a0_4, .int .i64 a0_5, .int .i64 a0_6, .int .i64 a0_7] (encT [s0, s1, s2, s3, s4, s5, s6, s7] 5 ++ s5) w6) := ⟨HE.out.wrote hd hb hk⟩; clear HE hd hb hk; have HE := HE2; clear HE2))
        go_roundg 2
        case measure => omega
        case rel => exact ⟨6, rfl, by omega, HE⟩
      · have ix_ := idx8_6 a0_0 a0_1 a0_2 a0_3 a0_4 a0_5 a0_6 a0_7
        go_wp2_with (first | ((with_reducible refine gate_callee (f := 34) rfl ?_); refine goesL_ (some 38) rfl rfl Try.func34 (by kernel_rfl) rfl #[.int .i64 a0_6] rfl (by (try simp only [List.map_toArray, List.map_cons, List.map_nil]); first | done | rfl) ?_; refine (bytes_Two.calls a0_6 s6 _ S6.out).mono ?_; rintro e w5 ⟨rfl, hb⟩; refine ⟨_, rfl, ?_⟩; have HE2 := Aside0.mk (HE.out.below hb); clear hb HE; have HE := HE2; clear HE2) | ((with_reducible refine gate_callee (f := 33) rfl ?_); refine goesL_ (some 39) rfl rfl Try.func33 (by kernel_rfl) rfl #[.pointer (some ⟨gb, 0, none⟩), .string s6] rfl (by (try simp only [List.map_toArray, List.map_cons, List.map_nil]); first | done | rfl) ?_; refine (bld_write gb gb (Lib.strCells (encT [s0, s1, s2, s3, s4, s5, s6, s7] 6)) s6 _ (.inr HE.out.bd) (by have h := SZ.out; rw [ByteArray.size_append] at h; rw [Lib.strCells_length]; simp only [encT, List.take, List.foldl, ByteArray.size_append] at h ⊢; omega) (Nat.le_of_lt HE.out.bd.lt)).mono ?_; rintro e w6 ⟨rfl, hd, hb, hk⟩; refine ⟨_, rfl, ?_⟩; have HE2 : Aside0 (EnB w gb gc #[.int .i64 a0_0, .int .i64 a0_1, .int .i64 a0_2, .int .i64 a0_3, .int .i64 a0_4, .int .i64 a0_5, .int .i64 a0_6, .int .i64 a0_7, .slice A0_8 l0_8.length c0_8, .slice A0_9 l0_9.length c0_9, .slice A0_10 l0_10.length c0_10, .slice A0_11 l0_11.length c0_11] #[.int .i64 a0_0, .int .i64 a0_1, .int .i64 a0_2, .int .i64 a0_3, .int .i64 a0_4, .int .i64 a0_5, .int .i64 a0_6, .int .i64 a0_7] (encT [s0, s1, s2, s3, s4, s5, s6, s7] 6 ++ s6) w6) := ⟨HE.out.wrote hd hb hk⟩; clear HE hd hb hk; have HE := HE2; clear HE2))
        go_roundg 1
        case measure => omega
        case rel => exact ⟨7, rfl, by omega, HE⟩
      · have ix_ := idx8_7 a0_0 a0_1 a0_2 a0_3 a0_4 a0_5 a0_6 a0_7
        go_wp2_with (first | ((with_reducible refine gate_callee (f := 34) rfl ?_); refine goesL_ (some 38) rfl rfl Try.func34 (by kernel_rfl) rfl #[.int .i64 a0_7] rfl (by (try simp only [List.map_toArray, List.map_cons, List.map_nil]); first | done | rfl) ?_; refine (bytes_Two.calls a0_7 s7 _ S7.out).mono ?_; rintro e w5 ⟨rfl, hb⟩; refine ⟨_, rfl, ?_⟩; have HE2 := Aside0.mk (HE.out.below hb); clear hb HE; have HE := HE2; clear HE2) | ((with_reducible refine gate_callee (f := 33) rfl ?_); refine goesL_ (some 39) rfl rfl Try.func33 (by kernel_rfl) rfl #[.pointer (some ⟨gb, 0, none⟩), .string s7] rfl (by (try simp only [List.map_toArray, List.map_cons, List.map_nil]); first | done | rfl) ?_; refine (bld_write gb gb (Lib.strCells (encT [s0, s1, s2, s3, s4, s5, s6, s7] 7)) s7 _ (.inr HE.out.bd) (by have h := SZ.out; rw [ByteArray.size_append] at h; rw [Lib.strCells_length]; simp only [encT, List.take, List.foldl, ByteArray.size_append] at h ⊢; omega) (Nat.le_of_lt HE.out.bd.lt)).mono ?_; rintro e w6 ⟨rfl, hd, hb, hk⟩; refine ⟨_, rfl, ?_⟩; have HE2 : Aside0 (EnB w gb gc #[.int .i64 a0_0, .int .i64 a0_1, .int .i64 a0_2, .int .i64 a0_3, .int .i64 a0_4, .int .i64 a0_5, .int .i64 a0_6, .int .i64 a0_7, .slice A0_8 l0_8.length c0_8, .slice A0_9 l0_9.length c0_9, .slice A0_10 l0_10.length c0_10, .slice A0_11 l0_11.length c0_11] #[.int .i64 a0_0, .int .i64 a0_1, .int .i64 a0_2, .int .i64 a0_3, .int .i64 a0_4, .int .i64 a0_5, .int .i64 a0_6, .int .i64 a0_7] (encT [s0, s1, s2, s3, s4, s5, s6, s7] 7 ++ s7) w6) := ⟨HE.out.wrote hd hb hk⟩; clear HE hd hb hk; have HE := HE2; clear HE2))
        go_roundg 0
        case measure => omega
        case rel => exact ⟨8, rfl, by omega, HE⟩
      · have hm0 : wr.cell? ⟨w.heap.size, 0, none⟩ = some (.int .i64 a0_0) := (blk_cell HE.out.b1 0).trans rfl
        have hm1 : wr.cell? ⟨w.heap.size, 1, none⟩ = some (.int .i64 a0_1) := (blk_cell HE.out.b1 1).trans rfl
        have hm2 : wr.cell? ⟨w.heap.size, 2, none⟩ = some (.int .i64 a0_2) := (blk_cell HE.out.b1 2).trans rfl
        have hm3 : wr.cell? ⟨w.heap.size, 3, none⟩ = some (.int .i64 a0_3) := (blk_cell HE.out.b1 3).trans rfl
        have hm4 : wr.cell? ⟨w.heap.size, 4, none⟩ = some (.int .i64 a0_4) := (blk_cell HE.out.b1 4).trans rfl
        have hm5 : wr.cell? ⟨w.heap.size, 5, none⟩ = some (.int .i64 a0_5) := (blk_cell HE.out.b1 5).trans rfl
        have hm6 : wr.cell? ⟨w.heap.size, 6, none⟩ = some (.int .i64 a0_6) := (blk_cell HE.out.b1 6).trans rfl
        have hm7 : wr.cell? ⟨w.heap.size, 7, none⟩ = some (.int .i64 a0_7) := (blk_cell HE.out.b1 7).trans rfl
        have hm8 : wr.cell? ⟨w.heap.size, 8, none⟩ = some (.slice A0_8 l0_8.length c0_8) := (blk_cell HE.out.b1 8).trans rfl
        have hm9 : wr.cell? ⟨w.heap.size, 9, none⟩ = some (.slice A0_9 l0_9.length c0_9) := (blk_cell HE.out.b1 9).trans rfl
        have hm10 : wr.cell? ⟨w.heap.size, 10, none⟩ = some (.slice A0_10 l0_10.length c0_10) := (blk_cell HE.out.b1 10).trans rfl
        have hm11 : wr.cell? ⟨w.heap.size, 11, none⟩ = some (.slice A0_11 l0_11.length c0_11) := (blk_cell HE.out.b1 11).trans rfl
        go_wp2_with (first | ((with_reducible refine gate_callee (f := 19) rfl ?_); refine goesL_ (some 42) rfl rfl Try.func19 (by kernel_rfl) rfl #[.agg #[.int .i64 a0_0, .int .i64 a0_1, .int .i64 a0_2, .int .i64 a0_3, .int .i64 a0_4, .int .i64 a0_5, .int .i64 a0_6, .int .i64 a0_7, .slice A0_8 l0_8.length c0_8, .slice A0_9 l0_9.length c0_9, .slice A0_10 l0_10.length c0_10, .slice A0_11 l0_11.length c0_11]] rfl (by (try simp only [List.map_toArray, List.map_cons, List.map_nil]); first | done | rfl) ?_; refine (ckpt_Flat.calls k a0_0 a0_1 a0_2 a0_3 a0_4 a0_5 a0_6 a0_7 A0_8 c0_8 l0_8 A0_9 c0_9 l0_9 A0_10 c0_10 l0_10 A0_11 c0_11 l0_11 l _ (Kd.C_below HR8.out HE.out.bl) HC.out.1 (Kd.C_below HR9.out HE.out.bl) HC.out.2.1 (Kd.C_below HR10.out HE.out.bl) HC.out.2.2.1 (Kd.C_below HR11.out HE.out.bl) HC.out.2.2.2 SL_.out).mono ?_; rintro e w5 ⟨v, rfl, hRv, hb⟩; refine ⟨_, rfl, ?_⟩; have HE2 := Aside0.mk (HE.out.below hb); clear hb HE; have HE := HE2; clear HE2; obtain ⟨Av, cv, e_, hle, hCv⟩ := Kd.R_reads hRv; subst e_; have HFL := Aside0.mk (And.intro hle hCv); clear hle hCv hRv; clear hm0 hm1 hm2 hm3 hm4 hm5 hm6 hm7 hm8 hm9 hm10 hm11) | ((with_reducible refine gate_callee (f := 35) rfl ?_); refine goesL_ (some 43) rfl rfl Try.func35 (by kernel_rfl) rfl #[.slice Av l.length cv] rfl (by (try simp only [List.map_toArray, List.map_cons, List.map_nil]); first | done | rfl) ?_; refine (bytes_Weights.calls k Av cv l ws _ HFL.out.2 HFL.out.1 SW.out).mono ?_; rintro e w5 ⟨rfl, hb⟩; refine ⟨_, rfl, ?_⟩; have HE2 := Aside0.mk (HE.out.below hb); clear hb HE; have HE := HE2; clear HE2) | ((with_reducible refine gate_callee (f := 33) rfl ?_); refine goesL_ (some 44) rfl rfl Try.func33 (by kernel_rfl) rfl #[.pointer (some ⟨gb, 0, none⟩), .string ws] rfl (by (try simp only [List.map_toArray, List.map_cons, List.map_nil]); first | done | rfl) ?_; refine (bld_write gb gb (Lib.strCells (encT [s0, s1, s2, s3, s4, s5, s6, s7] 8)) ws _ (.inr HE.out.bd) (by have h := SZ.out; rw [ByteArray.size_append] at h; rw [Lib.strCells_length]; exact h) (Nat.le_of_lt HE.out.bd.lt)).mono ?_; rintro e w6 ⟨rfl, hd, hb, hk⟩; refine ⟨_, rfl, ?_⟩; have HE2 : Aside0 (EnB w gb gc #[.int .i64 a0_0, .int .i64 a0_1, .int .i64 a0_2, .int .i64 a0_3, .int .i64 a0_4, .int .i64 a0_5, .int .i64 a0_6, .int .i64 a0_7, .slice A0_8 l0_8.length c0_8, .slice A0_9 l0_9.length c0_9, .slice A0_10 l0_10.length c0_10, .slice A0_11 l0_11.length c0_11] #[.int .i64 a0_0, .int .i64 a0_1, .int .i64 a0_2, .int .i64 a0_3, .int .i64 a0_4, .int .i64 a0_5, .int .i64 a0_6, .int .i64 a0_7] (encT [s0, s1, s2, s3, s4, s5, s6, s7] 8 ++ ws) w6) := ⟨HE.out.wrote hd hb hk⟩; clear HE hd hb hk; have HE := HE2; clear HE2) | ((with_reducible refine gate_callee (f := 37) rfl ?_); refine goesL_ (some 45) rfl rfl Try.func37 (by kernel_rfl) rfl #[.pointer (some ⟨gb, 0, none⟩)] rfl (by (try simp only [List.map_toArray, List.map_cons, List.map_nil]); first | done | rfl) ?_; refine (bld_string gb gb (encT [s0, s1, s2, s3, s4, s5, s6, s7] 8 ++ ws) _ HE.out.bd (Nat.le_of_lt HE.out.bd.lt)).mono ?_; rintro e w7 ⟨rfl, hb, _⟩; refine ⟨_, rfl, ?_⟩; have HB7 : Aside0 (Below w.heap.size w w7) := ⟨HE.out.bl.trans ⟨hb.os, hb.tape, hb.output, hb.size, fun i hi => hb.block i (Nat.lt_trans hi HE.out.ord)⟩⟩; clear hb HE) | ((with_reducible refine gate_callee (f := 36) rfl ?_); refine goesL_ (some 46) rfl rfl Try.func36 (by kernel_rfl) rfl #[.string (encT [s0, s1, s2, s3, s4, s5, s6, s7] 8 ++ ws)] rfl (by (try simp only [List.map_toArray, List.map_cons, List.map_nil]); first | done | rfl) ?_; refine (bytes_Seal.calls k (encT [s0, s1, s2, s3, s4, s5, s6, s7] 8 ++ ws) r1 _ SS.out).mono ?_; rintro e w8 ⟨rfl, hb⟩; refine ⟨_, rfl, ?_⟩; have HB8 := Aside0.mk (below_step HB7.out hb); clear hb))
        go_ret2
        exact ⟨rfl, HB8.out⟩
  · rw [if_neg c0] at H
    obtain ⟨rfl, rfl⟩ := Prod.mk.inj (Option.some.inj H)
    clear H
    have ct : (t != 0) = true := bne_iff_ne.mpr c0
    clear c0
    go_enter Try.func14, Try.ntmps14
    have hm0 : (w.alloc (.cells #[.int .i64 a0_0, .int .i64 a0_1, .int .i64 a0_2, .int .i64 a0_3, .int .i64 a0_4, .int .i64 a0_5, .int .i64 a0_6, .int .i64 a0_7, .slice A0_8 l0_8.length c0_8, .slice A0_9 l0_9.length c0_9, .slice A0_10 l0_10.length c0_10, .slice A0_11 l0_11.length c0_11] 29)).cell? ⟨w.heap.size, 0, none⟩ = some (.int .i64 a0_0) := (blk_cell HI0.out.b1 0).trans rfl
    have hm1 : (w.alloc (.cells #[.int .i64 a0_0, .int .i64 a0_1, .int .i64 a0_2, .int .i64 a0_3, .int .i64 a0_4, .int .i64 a0_5, .int .i64 a0_6, .int .i64 a0_7, .slice A0_8 l0_8.length c0_8, .slice A0_9 l0_9.length c0_9, .slice A0_10 l0_10.length c0_10, .slice A0_11 l0_11.length c0_11] 29)).cell? ⟨w.heap.size, 1, none⟩ = some (.int .i64 a0_1) := (blk_cell HI0.out.b1 1).trans rfl
    have hm2 : (w.alloc (.cells #[.int .i64 a0_0, .int .i64 a0_1, .int .i64 a0_2, .int .i64 a0_3, .int .i64 a0_4, .int .i64 a0_5, .int .i64 a0_6, .int .i64 a0_7, .slice A0_8 l0_8.length c0_8, .slice A0_9 l0_9.length c0_9, .slice A0_10 l0_10.length c0_10, .slice A0_11 l0_11.length c0_11] 29)).cell? ⟨w.heap.size, 2, none⟩ = some (.int .i64 a0_2) := (blk_cell HI0.out.b1 2).trans rfl
    have hm3 : (w.alloc (.cells #[.int .i64 a0_0, .int .i64 a0_1, .int .i64 a0_2, .int .i64 a0_3, .int .i64 a0_4, .int .i64 a0_5, .int .i64 a0_6, .int .i64 a0_7, .slice A0_8 l0_8.length c0_8, .slice A0_9 l0_9.length c0_9, .slice A0_10 l0_10.length c0_10, .slice A0_11 l0_11.length c0_11] 29)).cell? ⟨w.heap.size, 3, none⟩ = some (.int .i64 a0_3) := (blk_cell HI0.out.b1 3).trans rfl
    have hm4 : (w.alloc (.cells #[.int .i64 a0_0, .int .i64 a0_1, .int .i64 a0_2, .int .i64 a0_3, .int .i64 a0_4, .int .i64 a0_5, .int .i64 a0_6, .int .i64 a0_7, .slice A0_8 l0_8.length c0_8, .slice A0_9 l0_9.length c0_9, .slice A0_10 l0_10.length c0_10, .slice A0_11 l0_11.length c0_11] 29)).cell? ⟨w.heap.size, 4, none⟩ = some (.int .i64 a0_4) := (blk_cell HI0.out.b1 4).trans rfl
    have hm5 : (w.alloc (.cells #[.int .i64 a0_0, .int .i64 a0_1, .int .i64 a0_2, .int .i64 a0_3, .int .i64 a0_4, .int .i64 a0_5, .int .i64 a0_6, .int .i64 a0_7, .slice A0_8 l0_8.length c0_8, .slice A0_9 l0_9.length c0_9, .slice A0_10 l0_10.length c0_10, .slice A0_11 l0_11.length c0_11] 29)).cell? ⟨w.heap.size, 5, none⟩ = some (.int .i64 a0_5) := (blk_cell HI0.out.b1 5).trans rfl
    have hm6 : (w.alloc (.cells #[.int .i64 a0_0, .int .i64 a0_1, .int .i64 a0_2, .int .i64 a0_3, .int .i64 a0_4, .int .i64 a0_5, .int .i64 a0_6, .int .i64 a0_7, .slice A0_8 l0_8.length c0_8, .slice A0_9 l0_9.length c0_9, .slice A0_10 l0_10.length c0_10, .slice A0_11 l0_11.length c0_11] 29)).cell? ⟨w.heap.size, 6, none⟩ = some (.int .i64 a0_6) := (blk_cell HI0.out.b1 6).trans rfl
    have hm7 : (w.alloc (.cells #[.int .i64 a0_0, .int .i64 a0_1, .int .i64 a0_2, .int .i64 a0_3, .int .i64 a0_4, .int .i64 a0_5, .int .i64 a0_6, .int .i64 a0_7, .slice A0_8 l0_8.length c0_8, .slice A0_9 l0_9.length c0_9, .slice A0_10 l0_10.length c0_10, .slice A0_11 l0_11.length c0_11] 29)).cell? ⟨w.heap.size, 7, none⟩ = some (.int .i64 a0_7) := (blk_cell HI0.out.b1 7).trans rfl
    have hm8 : (w.alloc (.cells #[.int .i64 a0_0, .int .i64 a0_1, .int .i64 a0_2, .int .i64 a0_3, .int .i64 a0_4, .int .i64 a0_5, .int .i64 a0_6, .int .i64 a0_7, .slice A0_8 l0_8.length c0_8, .slice A0_9 l0_9.length c0_9, .slice A0_10 l0_10.length c0_10, .slice A0_11 l0_11.length c0_11] 29)).cell? ⟨w.heap.size, 8, none⟩ = some (.slice A0_8 l0_8.length c0_8) := (blk_cell HI0.out.b1 8).trans rfl
    have hm9 : (w.alloc (.cells #[.int .i64 a0_0, .int .i64 a0_1, .int .i64 a0_2, .int .i64 a0_3, .int .i64 a0_4, .int .i64 a0_5, .int .i64 a0_6, .int .i64 a0_7, .slice A0_8 l0_8.length c0_8, .slice A0_9 l0_9.length c0_9, .slice A0_10 l0_10.length c0_10, .slice A0_11 l0_11.length c0_11] 29)).cell? ⟨w.heap.size, 9, none⟩ = some (.slice A0_9 l0_9.length c0_9) := (blk_cell HI0.out.b1 9).trans rfl
    have hm10 : (w.alloc (.cells #[.int .i64 a0_0, .int .i64 a0_1, .int .i64 a0_2, .int .i64 a0_3, .int .i64 a0_4, .int .i64 a0_5, .int .i64 a0_6, .int .i64 a0_7, .slice A0_8 l0_8.length c0_8, .slice A0_9 l0_9.length c0_9, .slice A0_10 l0_10.length c0_10, .slice A0_11 l0_11.length c0_11] 29)).cell? ⟨w.heap.size, 10, none⟩ = some (.slice A0_10 l0_10.length c0_10) := (blk_cell HI0.out.b1 10).trans rfl
    have hm11 : (w.alloc (.cells #[.int .i64 a0_0, .int .i64 a0_1, .int .i64 a0_2, .int .i64 a0_3, .int .i64 a0_4, .int .i64 a0_5, .int .i64 a0_6, .int .i64 a0_7, .slice A0_8 l0_8.length c0_8, .slice A0_9 l0_9.length c0_9, .slice A0_10 l0_10.length c0_10, .slice A0_11 l0_11.length c0_11] 29)).cell? ⟨w.heap.size, 11, none⟩ = some (.slice A0_11 l0_11.length c0_11) := (blk_cell HI0.out.b1 11).trans rfl
    go_wp2_with (first | ((with_reducible refine gate_callee (f := 16) rfl ?_); refine goesL_ (some 10) rfl rfl Try.func16 (by kernel_rfl) rfl #[.agg #[.int .i64 a0_0, .int .i64 a0_1, .int .i64 a0_2, .int .i64 a0_3, .int .i64 a0_4, .int .i64 a0_5, .int .i64 a0_6, .int .i64 a0_7, .slice A0_8 l0_8.length c0_8, .slice A0_9 l0_9.length c0_9, .slice A0_10 l0_10.length c0_10, .slice A0_11 l0_11.length c0_11]] rfl (by (try simp only [List.map_toArray, List.map_cons, List.map_nil]); first | done | rfl) ?_; (with_reducible refine (ckpt_Check.calls k a0_0 a0_1 a0_2 a0_3 a0_4 a0_5 a0_6 a0_7 A0_8 c0_8 l0_8 A0_9 c0_9 l0_9 A0_10 c0_10 l0_10 A0_11 c0_11 l0_11 _ _ (Kd.C_below HR8.out HI0.out.bl) HC.out.1 (Kd.C_below HR9.out HI0.out.bl) HC.out.2.1 (Kd.C_below HR10.out HI0.out.bl) HC.out.2.2.1 (Kd.C_below HR11.out HI0.out.bl) HC.out.2.2.2 HT.out).mono ?_); rintro e w1 ⟨rfl, hb⟩; refine ⟨_, rfl, ?_⟩; have HI := Aside0.mk (HI0.out.below hb); clear hb HI0; clear hm0 hm1 hm2 hm3 hm4 hm5 hm6 hm7 hm8 hm9 hm10 hm11))
    go_ret2
    exact ⟨rfl, HI.out.bl⟩

end Go.Proofs.Ytdlinhegmplgiaa.PCkptChecks
