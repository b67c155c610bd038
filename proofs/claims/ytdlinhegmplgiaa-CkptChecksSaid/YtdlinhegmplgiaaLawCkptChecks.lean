-- A text of the session: the law's row, out of its plain statement (wip/tools/lawrow.py).
import Derived.Test.YtdlinhegmplgiaaRows
import Derived.Test.YtdlinhegmplgiaaPCkptChecksx14
import Derived.Test.YtdlinhegmplgiaaPureCkptChecks
import Derived.WalkKit
import Derived.ProofKit
import Derived.OpenShut
import Derived.ShutString
import Derived.ChangeOld
import Derived.Below
import Derived.SizedLaws
import Derived.Test.YtdlinhegmplgiaaXW
import Derived.Test.YtdlinhegmplgiaaMDeep
import Derived.Test.YtdlinhegmplgiaaMOpen
namespace Go.Proofs.Ytdlinhegmplgiaa.ckptChecks
open Go.ChangeShapes Go.WideShapes Go.ChangeAt Go.RowKit Go.Proofs.YtdlinhegmplgiaaW.PrintWords
open Go.ChangeMaps (open_string shut_string)
set_option linter.unusedVariables false
theorem own : ownKnob Try.prog.godebug = none := by kernel_rfl
theorem laidOut : laidOutB Try.prog = true := by kernel_rfl
def IsRow (k : IntKind) (w : World) (a : Option Addr) (len cap : Nat) (zs : List Int) : Prop :=
  (a = none ∧ len = 0 ∧ cap = 0 ∧ zs = []) ∨
  ∃ x, a = some x ∧ len ≤ cap ∧ cap ≤ maxLen ∧ zs.length = cap ∧ (∀ i, i < zs.length → w.cell? (x.add i) = some (.int k (zs.getD i 0))) ∧ ∀ n ∈ zs, (Lit.int k n).wf = true
set_option maxRecDepth 100000 in
theorem lifted (os : Os) (started : os.Started) (H : Type) (enc : TypeId × Value → H) :
    ReturnsInHanded {} Try.checked os 4 .any (Rows.ckptChecksSpec.pre6 enc Try.prog Try.f4 Rows.ckptChecksRow.domain false) (Rows.ckptChecksSpec.post enc Try.prog Try.f4 false true false false) := by
  refine returnsInHanded_of_change_sized (C := Try.checked) own started (by kernel_rfl) Try.func4
    (ChangeSpec.witness6 (enc := enc) (C := Try.checked) false ⟨#[], #[.agg #[.int .i64 0, .int .i64 0, .int .i64 0, .int .i64 0, .int .i64 0, .int .i64 0, .int .i64 0, .int .i64 0, .slice none 0 0, .slice none 0 0, .slice none 0 0, .slice none 0 0]], []⟩ 8 (by kernel_rfl) (by kernel_rfl) (by kernel_rfl) (by kernel_rfl)) ?_
  intro W base args ds gs before hval0 hW hcnd hsz0 _
  have hsz : (DataW.weightsEach Try.prog (Try.f4.params.toList ++ Rows.ckptChecksSpec.plain.varTypes Try.prog) (ds ++ gs)).all (· ≤ reachBytes) = true := hsz0
  have hval : ∀ (j : Nat) t v, Try.f4.params[j]? = some t → args[j]? = some v → Value.okWide Try.prog W .any base t v := hval0
  have hW' := hW
  obtain ⟨p, q, hA0, hV, rfl, hfz, hnd⟩ := hW
  have hA : DataW.TrodAll enc Try.prog W 0 (fun _ => true) true Try.f4.params.toList args.toList ds p := hA0
  rw [Try.params4] at hA hval hsz
  obtain ⟨v0, vs0, d0, ds0, p0, q0, hargs, rfl, rfl, h0, r0⟩ := trodAll_cons hA
  obtain ⟨rfl, rfl, rfl⟩ := trodAll_nil r0
  obtain rfl : args = #[v0] := by cases args; simp_all
  obtain ⟨rfl, rfl⟩ := trodVars_none hV
  have sp8 : ∀ j : Nat, j < 8 → j = 0 ∨ j = 1 ∨ j = 2 ∨ j = 3 ∨ j = 4 ∨ j = 5 ∨ j = 6 ∨ j = 7 := by omega
  have sp9 : ∀ j : Nat, j < 9 → j = 0 ∨ j = 1 ∨ j = 2 ∨ j = 3 ∨ j = 4 ∨ j = 5 ∨ j = 6 ∨ j = 7 ∨ j = 8 := by omega
  have sp5 : ∀ j : Nat, j < 5 → j = 0 ∨ j = 1 ∨ j = 2 ∨ j = 3 ∨ j = 4 := by omega
  have h0_ := h0
  have k0 := h0
  have lt0 : ∀ x ∈ p0, x.block < W.heap.size := by obtain ⟨m, hm⟩ := k0; exact DataW.trod_lt m _ _ _ hm
  obtain ⟨cs0, rfl, hcz0⟩ := Go.WideShapes.okWide_struct Try.underlying29 (hval 0 29 v0 rfl rfl)
  have hwt0 : ∀ n ∈ d0.weights Try.prog 29, n ≤ reachBytes := fun n hn => of_decide_eq_true (List.all_eq_true.1 hsz n (DataW.weights_mem_each (j := 0) rfl rfl n hn))
  have oB := Mth.opens_slice (H := H) (enc := enc) (P := Try.prog) (W := W) (base := 0) (held := true) (t := 26) (e := 46) (d := Kd.int .i8) (B := 1) Try.underlying26 (by kernel_rfl) (by kernel_rfl) (Mth.opens_int Try.underlying46)
  have oR := Mth.opens_slice (t := 57) (e := 26) (d := Kd.slice 46 (Kd.int .i8)) (B := 24) Try.underlying57 (by kernel_rfl) (by kernel_rfl) oB
  have oI := Mth.opens_int (H := H) (enc := enc) (P := Try.prog) (W := W) (base := 0) (held := true) (t := 3) (k := .i64) Try.underlying3
  have oE := Mth.opens_iso (Mth.opens_struct (t := 59) Try.underlying59 rfl (fun j hj => by rcases sp9 j hj with rfl | rfl | rfl | rfl | rfl | rfl | rfl | rfl | rfl <;> kernel_rfl) (by kernel_rfl) (Mth.opensL_cons oB (by kernel_rfl) (Mth.opensL_cons oB (by kernel_rfl) (Mth.opensL_cons oB (by kernel_rfl) (Mth.opensL_cons oB (by kernel_rfl) (Mth.opensL_cons oB (by kernel_rfl) (Mth.opensL_cons oB (by kernel_rfl) (Mth.opensL_cons oB (by kernel_rfl) (Mth.opensL_cons oR (by kernel_rfl) (Mth.opensL_one oR (by kernel_rfl))))))))))) (fun x : PCkptChecks.S59 => (x.f0, x.f1, x.f2, x.f3, x.f4, x.f5, x.f6, x.f7, x.f8)) (fun v => ⟨v.1, v.2.1, v.2.2.1, v.2.2.2.1, v.2.2.2.2.1, v.2.2.2.2.2.1, v.2.2.2.2.2.2.1, v.2.2.2.2.2.2.2.1, v.2.2.2.2.2.2.2.2⟩) (fun _ => rfl)
  have oL := Mth.opens_slice (t := 27) (e := 59) (d := PCkptChecks.k59) (B := 216) Try.underlying27 (by kernel_rfl) (by kernel_rfl) oE
  have oC := Mth.opens_struct (t := 23) Try.underlying23 rfl (fun j hj => by rcases sp8 j hj with rfl | rfl | rfl | rfl | rfl | rfl | rfl | rfl <;> kernel_rfl) (by kernel_rfl) (Mth.opensL_cons oI (by kernel_rfl) (Mth.opensL_cons oI (by kernel_rfl) (Mth.opensL_cons oI (by kernel_rfl) (Mth.opensL_cons oI (by kernel_rfl) (Mth.opensL_cons oI (by kernel_rfl) (Mth.opensL_cons oI (by kernel_rfl) (Mth.opensL_cons oI (by kernel_rfl) (Mth.opensL_one oI (by kernel_rfl)))))))))
  have oM := Mth.opens_struct (t := 29) Try.underlying29 rfl (fun j hj => by rcases sp5 j hj with rfl | rfl | rfl | rfl | rfl <;> kernel_rfl) (by kernel_rfl) (Mth.opensL_cons oC (by kernel_rfl) (Mth.opensL_cons oB (by kernel_rfl) (Mth.opensL_cons oL (by kernel_rfl) (Mth.opensL_cons oB (by kernel_rfl) (Mth.opensL_one oB (by kernel_rfl))))))
  obtain ⟨fuel0, hf0⟩ := h0_
  obtain ⟨⟨⟨a0_0, a0_1, a0_2, a0_3, a0_4, a0_5, a0_6, a0_7⟩, l0_8, l0_9, l0_10, l0_11⟩, hK0, ⟨w0_0, w0_1, w0_2, w0_3, w0_4, w0_5, w0_6, w0_7⟩, we0, ⟨wl0, wg0⟩, wn0, wo0⟩ := oM fuel0 _ _ hf0 hwt0
  obtain ⟨_, _, hcs0, ⟨_, _, rfl, rfl, _, _, rfl, rfl, _, _, rfl, rfl, _, _, rfl, rfl, _, _, rfl, rfl, _, _, rfl, rfl, _, _, rfl, rfl, rfl⟩, _, _, rfl, ⟨A0_8, c0_8, rfl, hc0_8, hr0_8⟩, _, _, rfl, ⟨A0_9, c0_9, rfl, hc0_9, hr0_9⟩, _, _, rfl, ⟨A0_10, c0_10, rfl, hc0_10, hr0_10⟩, A0_11, c0_11, rfl, hc0_11, hr0_11⟩ := hK0
  obtain rfl : cs0 = #[.int .i64 a0_0, .int .i64 a0_1, .int .i64 a0_2, .int .i64 a0_3, .int .i64 a0_4, .int .i64 a0_5, .int .i64 a0_6, .int .i64 a0_7, .slice A0_8 l0_8.length c0_8, .slice A0_9 l0_9.length c0_9, .slice A0_10 l0_10.length c0_10, .slice A0_11 l0_11.length c0_11] := by apply Array.toList_inj.1; simpa [Value.cells] using hcs0
  clear hA0 hval0 hsz0 hsz
  obtain ⟨k, hk⟩ := Pure.CkptChecks a0_0 a0_1 a0_2 a0_3 a0_4 a0_5 a0_6 a0_7 l0_8 l0_9 l0_10 l0_11 w0_0 w0_1 w0_2 w0_3 w0_4 w0_5 w0_6 w0_7 we0 wl0 wg0 wn0 wo0
  refine (PCkptChecks.aviarylaw09_CkptChecks.calls k a0_0 a0_1 a0_2 a0_3 a0_4 a0_5 a0_6 a0_7 _ _ l0_8 _ _ l0_9 _ _ l0_10 _ _ l0_11 true W hr0_8 hc0_8 hr0_9 hc0_9 hr0_10 hc0_10 hr0_11 hc0_11 hk).mono fun e W' ⟨he, bel⟩ => ?_
  subst he
  exact ⟨_, rfl, _, _, _, [], _, [], hW', trodAll_mk1 (shut_bool Try.underlying4 _), (trodAll_cons_mk (Below.trod laidOut (by kernel_rfl) (of_decide_eq_true (by kernel_rfl)) k0 bel lt0) trodAll_mk0), rfl, bel.frame _, fun h => by cases h⟩
theorem over : Rows.ckptChecksRow.holds Try.pinned (OpenSpec.ofChange Rows.ckptChecksSpec) :=
  OpenClaim.holds_of_wide 4 Try.f4 rfl rfl rfl rfl rfl rfl rfl ⟨rfl, rfl, rfl, rfl, rfl⟩ rfl rfl rfl rfl rfl (by kernel_rfl) Try.func4 (by kernel_rfl)
    (of_decide_eq_true (by kernel_rfl)) (by unfold Func.isWrapper; first | (rw [if_pos (by decide +kernel)]; kernel_rfl) | (rw [if_neg (by decide +kernel)]; exact ⟨rfl, rfl⟩))
    (fun os started H enc _ => lifted os started H enc)
theorem proved : Rows.CkptChecksSaid := over
#print axioms proved
end Go.Proofs.Ytdlinhegmplgiaa.ckptChecks
namespace Go.Proofs.Ytdlinhegmplgiaa
/-- The row, under a short name, for the claim. -/
theorem ckptChecks_holds : Rows.CkptChecksSaid := ckptChecks.proved
end Go.Proofs.Ytdlinhegmplgiaa
