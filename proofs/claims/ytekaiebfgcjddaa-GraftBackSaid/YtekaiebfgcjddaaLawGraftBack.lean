-- A text of the session: the law's row, out of its plain statement (wip/tools/lawrow.py).
import Derived.Test.YtekaiebfgcjddaaRows
import Derived.Test.YtekaiebfgcjddaaPGraftBackx12
import Derived.Test.YtekaiebfgcjddaaPureGraftBack
import Derived.WalkKit
import Derived.ProofKit
import Derived.OpenShut
import Derived.ShutString
import Derived.ChangeOld
import Derived.Below
import Derived.SizedLaws
import Derived.Test.YtekaiebfgcjddaaXW
import Derived.Test.YtekaiebfgcjddaaMDeep
import Derived.Test.YtekaiebfgcjddaaMOpen
namespace Go.Proofs.Ytekaiebfgcjddaa.graftBack
open Go.ChangeShapes Go.WideShapes Go.ChangeAt Go.RowKit Go.Proofs.YtekaiebfgcjddaaW.PrintWords
open Go.ChangeMaps (open_string shut_string)
set_option linter.unusedVariables false
theorem own : ownKnob Try.prog.godebug = none := by kernel_rfl
theorem laidOut : laidOutB Try.prog = true := by kernel_rfl
def IsRow (k : IntKind) (w : World) (a : Option Addr) (len cap : Nat) (zs : List Int) : Prop :=
  (a = none ∧ len = 0 ∧ cap = 0 ∧ zs = []) ∨
  ∃ x, a = some x ∧ len ≤ cap ∧ cap ≤ maxLen ∧ zs.length = cap ∧ (∀ i, i < zs.length → w.cell? (x.add i) = some (.int k (zs.getD i 0))) ∧ ∀ n ∈ zs, (Lit.int k n).wf = true
set_option maxRecDepth 100000 in
theorem lifted (os : Os) (started : os.Started) (H : Type) (enc : TypeId × Value → H) :
    ReturnsInHanded {} Try.checked os 7 .any (Rows.graftBackSpec.pre6 enc Try.prog Try.f7 Rows.graftBackRow.domain false) (Rows.graftBackSpec.post enc Try.prog Try.f7 false true false false) := by
  refine returnsInHanded_of_change_sized (C := Try.checked) own started (by kernel_rfl) Try.func7
    (ChangeSpec.witness6 (enc := enc) (C := Try.checked) false ⟨#[], #[.agg #[.int .i64 0, .int .i64 0, .slice none 0 0], .agg #[.int .i64 0, .int .i64 0, .int .i64 0, .int .i64 0, .int .i64 0, .int .i64 0, .int .i64 0, .int .i64 0], .string ByteArray.empty], []⟩ 8 (by kernel_rfl) (by kernel_rfl) (by kernel_rfl) (by kernel_rfl)) ?_
  intro W base args ds gs before hval0 hW hcnd hsz0 _
  have hsz : (DataW.weightsEach Try.prog (Try.f7.params.toList ++ Rows.graftBackSpec.plain.varTypes Try.prog) (ds ++ gs)).all (· ≤ reachBytes) = true := hsz0
  have hval : ∀ (j : Nat) t v, Try.f7.params[j]? = some t → args[j]? = some v → Value.okWide Try.prog W .any base t v := hval0
  have hW' := hW
  obtain ⟨p, q, hA0, hV, rfl, hfz, hnd⟩ := hW
  have hA : DataW.TrodAll enc Try.prog W 0 (fun _ => true) true Try.f7.params.toList args.toList ds p := hA0
  rw [Try.params7] at hA hval hsz
  obtain ⟨v0, vs0, d0, ds0, p0, q0, hargs, rfl, rfl, h0, r0⟩ := trodAll_cons hA
  obtain ⟨v1, vs1, d1, ds1, p1, q1, rfl, rfl, rfl, h1, r1⟩ := trodAll_cons r0
  obtain ⟨v2, vs2, d2, ds2, p2, q2, rfl, rfl, rfl, h2, r2⟩ := trodAll_cons r1
  obtain ⟨rfl, rfl, rfl⟩ := trodAll_nil r2
  obtain rfl : args = #[v0, v1, v2] := by cases args; simp_all
  obtain ⟨rfl, rfl⟩ := trodVars_none hV
  have h0_ := h0
  have k0 := h0
  have lt0 : ∀ x ∈ p0, x.block < W.heap.size := by obtain ⟨m, hm⟩ := k0; exact DataW.trod_lt m _ _ _ hm
  obtain ⟨cs0, rfl, hcz0⟩ := Go.WideShapes.okWide_struct Try.underlying27 (hval 0 27 v0 rfl rfl)
  have hwt0 : ∀ n ∈ d0.weights Try.prog 27, n ≤ reachBytes := fun n hn => of_decide_eq_true (List.all_eq_true.1 hsz n (DataW.weights_mem_each (j := 0) rfl rfl n hn))
  have sp4 : ∀ j : Nat, j < 4 → j = 0 ∨ j = 1 ∨ j = 2 ∨ j = 3 := by omega
  have sp3 : ∀ j : Nat, j < 3 → j = 0 ∨ j = 1 ∨ j = 2 := by omega
  have oB0 := Mth.opens_slice (H := H) (enc := enc) (P := Try.prog) (W := W) (base := 0) (held := true) (t := 24) (e := 69) (d := Kd.int .i8) (B := 1) Try.underlying24 (by kernel_rfl) (by kernel_rfl) (Mth.opens_int Try.underlying69)
  have oE0 := Mth.opens_iso (Mth.opens_struct (t := 59) Try.underlying59 rfl (fun j hj => by rcases sp4 j hj with rfl | rfl | rfl | rfl <;> kernel_rfl) (by kernel_rfl) (Mth.opensL_cons oB0 (by kernel_rfl) (Mth.opensL_cons oB0 (by kernel_rfl) (Mth.opensL_cons oB0 (by kernel_rfl) (Mth.opensL_one oB0 (by kernel_rfl)))))) (fun x : PGraftBack.S59 => (x.f0, x.f1, x.f2, x.f3)) (fun v => ⟨v.1, v.2.1, v.2.2.1, v.2.2.2⟩) (fun _ => rfl)
  have oL0 := Mth.opens_slice (t := 25) (e := 59) (d := PGraftBack.k59) (B := 96) Try.underlying25 (by kernel_rfl) (by kernel_rfl) oE0
  have oA0 := Mth.opens_struct (t := 27) Try.underlying27 rfl (fun j hj => by rcases sp3 j hj with rfl | rfl | rfl <;> kernel_rfl) (by kernel_rfl) (Mth.opensL_cons (Mth.opens_int Try.underlying3) (by kernel_rfl) (Mth.opensL_cons (Mth.opens_int Try.underlying3) (by kernel_rfl) (Mth.opensL_one oL0 (by kernel_rfl))))
  obtain ⟨fuel0, hf0⟩ := h0_
  obtain ⟨⟨a0_0, a0_1, l0_2⟩, hK0, w0_0, w0_1, w0_2, w0_3⟩ := oA0 fuel0 _ _ hf0 hwt0
  obtain ⟨_, _, hcs0, rfl, _, _, rfl, rfl, A0_, c0_, rfl, hc0_2, hr0_2⟩ := hK0
  obtain rfl : cs0 = #[.int .i64 a0_0, .int .i64 a0_1, .slice A0_ l0_2.length c0_] := by apply Array.toList_inj.1; simpa [Value.cells] using hcs0
  obtain ⟨a1_0, a1_1, a1_2, a1_3, a1_4, a1_5, a1_6, a1_7, rfl⟩ := Mth.agg8 Try.underlying23 Try.underlying3 (by kernel_rfl) (by kernel_rfl) rfl (of_decide_eq_true (by kernel_rfl)) (hval 1 23 v1 rfl rfl) h1
  have k1 := h1
  have lt1 : ∀ x ∈ p1, x.block < W.heap.size := by obtain ⟨m, hm⟩ := k1; exact DataW.trod_lt m _ _ _ hm
  obtain ⟨a2, rfl, rfl, rfl, y2⟩ := open_string Try.underlying9 (hval 2 9 v2 rfl rfl) h2
  have w2 : a2.size ≤ 140737488351232 := by
    have z := sized_string hsz (j := 2) (t := 9) rfl rfl
    rw [Array.length_toList] at z
    exact z
  clear hA0 hval0 hsz0 hsz
  obtain ⟨k, hk⟩ := Pure.GraftBack a0_0 a0_1 l0_2 a1_0 a1_1 a1_2 a1_3 a1_4 a1_5 a1_6 a1_7 a2 w0_0 w0_1 w0_2 w0_3 w2
  refine (PGraftBack.aviarylaw10_GraftBack.calls k a0_0 a0_1 _ _ l0_2 a1_0 a1_1 a1_2 a1_3 a1_4 a1_5 a1_6 a1_7 a2 true W hr0_2 hc0_2 hk).mono fun e W' ⟨he, bel⟩ => ?_
  subst he
  exact ⟨_, rfl, _, _, _, [], _, [], hW', trodAll_mk1 (shut_bool Try.underlying4 _), (trodAll_cons_mk (Below.trod laidOut (by kernel_rfl) (of_decide_eq_true (by kernel_rfl)) k0 bel lt0) (trodAll_cons_mk (Below.trod laidOut (by kernel_rfl) (of_decide_eq_true (by kernel_rfl)) k1 bel lt1) (trodAll_cons_mk (shut_string Try.underlying9 y2) trodAll_mk0))), rfl, bel.frame _, fun h => by cases h⟩
theorem over : Rows.graftBackRow.holds Try.pinned (OpenSpec.ofChange Rows.graftBackSpec) :=
  OpenClaim.holds_of_wide 7 Try.f7 rfl rfl rfl rfl rfl rfl rfl ⟨rfl, rfl, rfl, rfl, rfl⟩ rfl rfl rfl rfl rfl (by kernel_rfl) Try.func7 (by kernel_rfl)
    (of_decide_eq_true (by kernel_rfl)) (by unfold Func.isWrapper; first | (rw [if_pos (by decide +kernel)]; kernel_rfl) | (rw [if_neg (by decide +kernel)]; exact ⟨rfl, rfl⟩))
    (fun os started H enc _ => lifted os started H enc)
theorem proved : Rows.GraftBackSaid := over
#print axioms proved
end Go.Proofs.Ytekaiebfgcjddaa.graftBack
namespace Go.Proofs.Ytekaiebfgcjddaa
/-- The row, under a short name, for the claim. -/
theorem graftBack_holds : Rows.GraftBackSaid := graftBack.proved
end Go.Proofs.Ytekaiebfgcjddaa
