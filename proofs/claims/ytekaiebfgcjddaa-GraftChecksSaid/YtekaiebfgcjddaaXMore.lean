/- Words for the walks beside the print's own: a cut with a capacity, a make with a capacity of its own. Plain theorems about the model's operations. -/
import Derived.Test.YtekaiebfgcjddaaWMore
import Derived.Test.YtekaiebfgcjddaaWFootNe
set_option linter.unusedVariables false
set_option linter.unusedSimpArgs false
namespace Go.Proofs.YtekaiebfgcjddaaW.PrintWords
open Go.RowKit
section
variable {P : Program} {ops : Array Oper} {rest : List Oper} {o : Oper} {a : Act} {Q : Exit → Act → World → Prop} {α : Type}
/-- 's[:j:j]' -/
theorem cut_to3 (t e : TypeId) (kh km : IntKind) {i : TypeInfo} (ht : P.underlying t = some (.slice e)) (hi : P.info? e = some i) (A : Option Addr) (n c : Nat) (j : Int) (h0 : 0 ≤ j) (hm : j ≤ n) (hc : n ≤ c) :
    ∀ W : World, (Instr.slice t (.slice A n c) none (some (.int kh j)) (some (.int km j))).run P W = .ok (.slice A j.toNat j.toNat) W := by
  intro W
  have hel : P.elem t = e := by simp [Program.elem, ht]
  have hu : P.underlying t = some (.slice (P.elem t)) := by rw [hel]; exact ht
  have ha : (A.map fun x => x.add 0) = A := by cases A <;> simp [Addr.add]
  rw [run_slice_hm W t A n c hu kh km j j h0 (by omega) (by omega), hel]
  simp [sizeOf, typeInfo, hi, sliced, Result.andThen, ha]
/-- 'make([]T, 0, c)': a row of one's own, empty. -/
theorem R_make0 (d : Kd α) {w0 W : World} (base e : Nat) (hgd : o.guard = none) {N : Tmp} (hd : o.dst = some N) (t : TypeId) (x y : Operand) (ho : o.op = .makeSlice t x y) (c : Int) (hx : a.eval x = .int .i64 0) (hy : a.eval y = .int .i64 c)
    (ht : P.underlying t = some (.slice e)) (z : Value) (bytes : Nat) (hinfo : (P.info? e).map (fun i => (i.zero, i.size, i.bytes)) = some (some z, d.sz, bytes)) (hb0 : 0 < bytes)
    {ok : Nat → Prop} (hfresh : ok W.heap.size) (h0 : 0 ≤ c) (hl : c.toNat * bytes ≤ 281474976710656) (HB : Below base w0 W) (hbase : base ≤ W.heap.size)
    (h : ∀ v1 w1, d.R e w1 base ok v1 [] → Below base w0 w1 → W.grownBy w1 none → (∃ b, v1.ownBlock = some b ∧ W.heap.size ≤ b) → wpList P ops Q rest (a.put o.dst v1) w1) : wpList P ops Q (o :: rest) a W := by
  obtain ⟨m, rfl⟩ := Int.eq_ofNat_of_zero_le h0
  simp only [Int.toNat_natCast] at hl
  obtain ⟨i0, hi, hzz⟩ := Option.map_eq_some_iff.1 hinfo
  simp only [Prod.mk.injEq] at hzz
  obtain ⟨hz0, hz1, hz2⟩ := hzz
  have hm : m ≤ 281474976710656 := Nat.le_trans (Nat.le_mul_of_pos_right _ hb0) hl
  obtain ⟨w', hr, hown, hg⟩ := run_make_own W base t e i0 z d.sz ht hi hz0 hz1 .i64 .i64 m (by rw [hz2, Nat.mul_comm]; exact hl) (by simp only [maxLen]; omega) hbase
  refine Kd.event_run hgd (v := .slice (some ⟨W.heap.size, 0, none⟩) 0 m) (w1 := w') ?_ (h _ _ ⟨fun k hk => ?_, [], by simpa using hown, ?_⟩ (HB.grown hg hbase (by simp)) hg ⟨W.heap.size, by simp [Value.ownBlock], Nat.le_refl _⟩)
  · simp [execOp, ho, hx, hy, hr]
  · have : W.heap.size = k := by simpa [Value.ownBlock] using hk
    subst this
    exact hfresh
  · exact ⟨by simp, fun j p hj => by simp at hj⟩
end
/-! ### '[]byte(s)': a row of one's own that bears a conversion's mark -/
/-- A row of bytes of the call's own; it may bear a conversion's mark, behind its cells. -/
def OwnB (W : World) (base e : Nat) (v : Value) (xs : List Int) : Prop :=
  ∃ g cap cur fz, v = .slice (some ⟨g, 0, none⟩) xs.length cap ∧ base ≤ g ∧ W.heap[g]? = some (.cells cur e fz) ∧ (cur.size ≤ fz.1 ∨ fz.2 = 0) ∧ xs.length ≤ cap ∧ cap ≤ maxLen ∧ cur.size = cap ∧ cur.toList.take xs.length = nums .u8 xs
theorem OwnB.grown {W w1 : World} {base e : Nat} {v : Value} {xs : List Int} (h : OwnB W base e v xs) {row : Option Nat} (hg : W.grownBy w1 row) (hne : ∀ k, v.ownBlock = some k → some k ≠ row) : OwnB w1 base e v xs := by
  obtain ⟨g, cap, cur, fz, rfl, hb, hc, r⟩ := h
  exact ⟨g, cap, cur, fz, rfl, hb, (hg.block g (blk_lt hc) (hne g rfl)).trans hc, r⟩
theorem OwnB.below {W w1 : World} {base e : Nat} {v : Value} {xs : List Int} (h : OwnB W base e v xs) (hb : Below W.heap.size W w1) : OwnB w1 base e v xs := h.grown (grown_of_below hb none) (fun k _ e => by cases e)
theorem OwnB.alloc {W : World} {base e : Nat} {v : Value} {xs : List Int} (h : OwnB W base e v xs) (o : Obj) : OwnB (W.alloc o) base e v xs := h.grown (World.grownBy_alloc W o none) (fun k _ e => by cases e)
theorem OwnB.drewN {W : World} {base e : Nat} {v : Value} {xs : List Int} (h : OwnB W base e v xs) (m : Nat) : OwnB (W.drewN m) base e v xs := h
theorem OwnB.of_string (W : World) {base : Nat} (e : Nat) (s : ByteArray) (hb : base ≤ W.heap.size) (hs : s.size ≤ maxLen) : OwnB (Lib.bytesWorld W e s) base e (.slice (some ⟨W.heap.size, 0, none⟩) s.size (grownCap W s.size 0 e)) (bytesOf s) := by
  have hge := grownCap_ge W s.size 0 e
  have hz : s.data.size = s.size := rfl
  refine ⟨W.heap.size, grownCap W s.size 0 e, Lib.bytesCells W e s, _, by rw [bytesOf_length], hb, Lib.bytesWorld_at_new W e s, .inl (Nat.le_refl _), by rw [bytesOf_length]; exact hge, grownCap_le_maxLen _ _ _ _ hs, ?_, ?_⟩
  · simp only [Lib.bytesCells, Array.size_append, Array.size_map, Array.size_replicate]; omega
  · rw [bytesOf_length]
    simp only [Lib.bytesCells, Array.toList_append, Array.toList_map]
    rw [List.take_left' (by simp [hz])]
    simp [nums, bytesOf]
theorem OwnB.at_ {W : World} {base e : Nat} {v : Value} {xs : List Int} (h : OwnB W base e v xs) (i : Int) (h0 : 0 ≤ i) (h1 : i < xs.length) :
    ∃ g cap, v = .slice (some ⟨g, 0, none⟩) xs.length cap ∧ base ≤ g ∧ W.cell? ⟨g, i.toNat, none⟩ = some (.int .u8 (rd xs i)) ∧ W.frozen? ⟨g, i.toNat, none⟩ = false ∧
      ∀ x : Int, OwnB (W.setCell ⟨g, i.toNat, none⟩ (.int .u8 x)) base e v (xs.set i.toNat x) := by
  obtain ⟨g, cap, cur, fz, rfl, hb, hc, hf, hl, hm, hz, ht⟩ := h
  have hi : i.toNat < xs.length := by omega
  have hn : (nums .u8 xs)[i.toNat]? = some (.int .u8 (rd xs i)) := by
    rw [nums, List.getElem?_map, rd, List.getD_eq_getElem?_getD, List.getElem?_eq_getElem hi]; rfl
  refine ⟨g, cap, rfl, hb, ?_, ?_, fun x => ⟨g, cap, cur.setIfInBounds i.toNat (.int .u8 x), fz, by rw [List.length_set], hb, ?_, by simpa using hf, by rw [List.length_set]; exact hl, hm, by simpa using hz, ?_⟩⟩
  · rw [cell_of_row W g i.toNat cur e fz hc]
    rw [← ht, List.getElem?_take, if_pos hi] at hn
    simpa using hn
  · obtain ⟨lo, up⟩ := fz
    simp only [World.frozen?, hc, Bool.and_eq_false_iff, decide_eq_false_iff_not]
    simp only at hf
    omega
  · simp [World.setCell, Array.getElem?_modify, hc]
  · rw [List.length_set, Array.toList_setIfInBounds, List.take_set, ht]
    simp [nums, List.map_set]
theorem OwnB.slice {W : World} {base e : Nat} {v : Value} {xs : List Int} (h : OwnB W base e v xs) : ∃ g cap, v = .slice (some ⟨g, 0, none⟩) xs.length cap ∧ base ≤ g := by
  obtain ⟨g, cap, cur, fz, rfl, hb, _⟩ := h
  exact ⟨g, cap, rfl, hb⟩
theorem OwnB.string {P : Program} {w : World} {base e' src dst e : TypeId} {v : Value} {xs : List Int} (hs : P.underlying src = some (.slice e)) (he : P.underlying e = some (.int .u8)) (hd : P.underlying dst = some .string)
    (h : OwnB w base e' v xs) : (convert src dst v).run P w = .ok (.string (strOfNums xs)) w := by
  obtain ⟨g, cap, cur, fz, rfl, hb, hc, hf, hl, hm, hz, ht⟩ := h
  refine run_convert_bytes_arg w src e hs he g 0 xs.length cap xs rfl (fun i hi => ?_) dst hd
  have hn : (nums .u8 xs)[i]? = some (.int .u8 (xs.getD i 0)) := by rw [nums, List.getElem?_map, List.getD_eq_getElem?_getD, List.getElem?_eq_getElem hi]; rfl
  rw [← ht, List.getElem?_take, if_pos hi] at hn
  rw [Nat.zero_add, cell_of_row w g i cur e' fz hc]
  simpa using hn
theorem run_storeCells_atM (P : Program) (g o : Nat) (t : TypeId) (fz : Nat × Nat) : ∀ (vs : List Value) (i : Nat) (cur : Array Value) (w : World), w.heap[g]? = some (.cells cur t fz) → (cur.size ≤ fz.1 ∨ fz.2 = 0) → o + i + vs.length ≤ cur.size → (∀ v ∈ vs, v.oneCell' = true) →
    (storeCells ⟨g, o, none⟩ vs i).run P w = .ok () (w.setRow g (cur.toList.take (o + i) ++ vs ++ cur.toList.drop (o + i + vs.length)).toArray)
  | [], i, cur, w, hg, _, _, _ => by
    simp only [storeCells, List.append_nil, List.length_nil, Nat.add_zero, List.take_append_drop, Array.toArray_toList]
    rw [setRow_self w g cur t fz hg]
    rfl
  | v :: rest, i, cur, w, hg, hfz, hl, h1 => by
    have hi : o + i < cur.size := by simp at hl; omega
    have hadd : (⟨g, o, none⟩ : Addr).add i = ⟨g, o + i, none⟩ := by unfold Addr.add; split <;> simp_all
    have hcell : w.cell? ⟨g, o + i, none⟩ = some cur[o + i] := by simp [World.cell?, hg, hi]
    have hfro : w.frozen? ⟨g, o + i, none⟩ = false := by
      obtain ⟨lo, hi'⟩ := fz
      simp only [World.frozen?, hg, Bool.and_eq_false_iff, decide_eq_false_iff_not]
      simp only at hfz
      omega
    have hst : (store ((⟨g, o, none⟩ : Addr).add i) v).run P w = .ok () (w.setRow g (cur.setIfInBounds (o + i) v)) := by
      rw [hadd, run_store P w _ v _ (h1 v (by simp)), hcell]
      simp [hfro, setCell_eq_setRow w g (o + i) cur t fz v hg]
    have ih := run_storeCells_atM P g o t fz rest (i + 1) (cur.setIfInBounds (o + i) v) (w.setRow g (cur.setIfInBounds (o + i) v)) (setRow_heap w g cur _ t _ hg) (by simpa using hfz) (by simp at hl ⊢; omega) (fun x hx => h1 x (by simp [hx]))
    simp only [storeCells, Sem.run_bind, hst, Result.andThen_ok, ih, setRow_setRow]
    congr 3
    have e := list_seg_step cur.toList (o + i) v rest (by simp at hl ⊢; omega)
    simpa [Array.toList_setIfInBounds, Nat.add_assoc] using e
theorem OwnB.run_append {P : Program} {w : World} (base : Nat) (t ty e : TypeId) (i : TypeInfo) (ht : P.underlying t = some (.slice e)) (hi : P.info? e = some i) (hz : i.zero = some (.int .u8 0)) (hsize : i.size = 1) (hby : i.bytes = 1)
    (v : Value) (xs : List Int) (hown : OwnB w base e v xs) (ad : Addr) (y : Int) (hnews : ∀ j u, [Value.int .u8 y][j]? = some u → w.cell? (ad.add j) = some u) (hbytes : xs.length + 1 ≤ 140737488355328) (hbase : base ≤ w.heap.size) :
    ∃ v' w', (Builtin.append_ #[t, t] ty #[v, .slice (some ad) 1 1]).run P w = .ok v' w' ∧ OwnB w' base e v' (xs ++ [y]) ∧ w.grownBy w' v.ownBlock := by
  obtain ⟨g, cap, cur, fz, rfl, hb, hc, hf, hl, hm, hcs, htk⟩ := hown
  have hlen : (xs ++ [y]).length = xs.length + 1 := by simp
  have hsmall : xs.length + 1 ≤ maxLen := by simp only [maxLen]; omega
  by_cases hroom : xs.length + 1 ≤ cap
  · have hf1 := run_firstCells_some (P := P) w i.size 1 ad 1 1 [.int .u8 y] (by rw [hsize]; rfl) hnews
    have hst := run_storeCells_atM P g (xs.length * i.size) e fz [.int .u8 y] 0 cur w hc hf (by rw [hsize]; simp; omega) (by simp [Value.oneCell'])
    simp only [Nat.add_zero] at hst
    have hr : (Builtin.append_ #[t, t] ty #[.slice (some ⟨g, 0, none⟩) xs.length cap, .slice (some ad) 1 1]).run P w =
        .ok (.slice (some ⟨g, 0, none⟩) (xs.length + 1) cap) (w.setRow g (cur.toList.take (xs.length * i.size) ++ [Value.int .u8 y] ++ cur.toList.drop (xs.length * i.size + 1)).toArray) := by
      simp [Builtin.append_, run_underlying ht, sizeOf, typeInfo, hi, Builtin.lenOf, hroom, hf1, Addr.add_lit, hst]
    refine ⟨_, _, hr, ⟨g, cap, _, fz, by rw [hlen], hb, setRow_heap w g cur _ e _ hc, ?_, by rw [hlen]; exact hroom, hm, ?_, ?_⟩, ⟨rfl, rfl, rfl, by simp, fun k _ hk => setRow_other w g k _ (fun e => hk (by simp [Value.ownBlock, e]))⟩⟩
    · rcases hf with hf | hf
      · left; simp only [List.size_toArray, List.length_append, List.length_take, List.length_drop, Array.length_toList, hsize, List.length_cons, List.length_nil]; omega
      · exact .inr hf
    · simp only [List.size_toArray, List.length_append, List.length_take, List.length_drop, Array.length_toList, hsize, List.length_cons, List.length_nil]; omega
    · rw [hsize, Nat.mul_one, htk, hlen]
      have hn : (nums .u8 xs ++ [Value.int .u8 y]).length = xs.length + 1 := by simp [nums]
      rw [← hn, List.take_left]
      simp [nums]
  · have holds : ∀ j u, (nums .u8 xs)[j]? = some u → w.cell? ((⟨g, 0, none⟩ : Addr).add j) = some u := by
      intro j u hj
      have hadd : (⟨g, 0, none⟩ : Addr).add j = ⟨g, j, none⟩ := by unfold Addr.add; split <;> simp_all
      rw [hadd, cell_of_row w g j cur e fz hc]
      rw [← htk, List.getElem?_take] at hj
      split at hj
      · simpa using hj
      · cases hj
    have hr := run_append_grow (P := P) w t ty e i (.int .u8 0) ht hi hz ⟨g, 0, none⟩ xs.length cap (nums .u8 xs) (by rw [hsize]; simp [nums]) holds ad 1 1 [.int .u8 y] (by rw [hsize]; rfl) hnews (by omega) (by omega) (growslice_fits (by omega) (by rw [hby]; omega))
    have hge := grownCap_ge w (xs.length + 1) cap e
    have hcm := grownCap_le_maxLen w (xs.length + 1) cap e hsmall
    refine ⟨_, _, hr, ⟨w.heap.size, _, _, (0, 0), by rw [hlen], hbase, heap_alloc_new w.drew _, .inr rfl, by rw [hlen]; exact hge, hcm, ?_, ?_⟩, ⟨rfl, rfl, rfl, by simp, fun k hk _ => Go.heap_alloc_old w.drew _ (r := k) hk⟩⟩
    · have hz1 : (Value.int IntKind.u8 0).cells.size = 1 := rfl
      simp only [Array.size_append, List.size_toArray, size_zeroCells, hz1, nums_length, List.length_cons, List.length_nil]; omega
    · simp only [Array.toList_append]
      have hn : (nums .u8 xs ++ [Value.int .u8 y]).length = xs.length + 1 := by simp [nums]
      rw [hlen, ← hn, List.take_left]
      simp [nums]
section
variable {P : Program} {ops : Array Oper} {rest : List Oper} {o : Oper} {a : Act} {Q : Exit → Act → World → Prop}
/-- 'append(b, y)' onto such a row. -/
theorem OwnB.append {w0 W : World} (base : Nat) (hgd : o.guard = none) (s x : Operand) (t e : TypeId)
    (ho : o.op = .call { callee := .builtin .append, args := #[s, x], argTypes := #[t, t] })
    (ht : P.underlying t = some (.slice e)) (hinfo : (P.info? e).map (fun i => (i.zero, i.size, i.bytes)) = some (some (.int .u8 0), 1, 1))
    (v : Value) (xs : List Int) (y : Int) (hs : a.eval s = v) (hx : a.eval x = .slice (some ⟨W.heap.size, 0, none⟩) 1 1)
    (HO : OwnB W base e v xs) (HB : Below base w0 W) (hbase : base ≤ W.heap.size) (hl : xs.length + 1 ≤ 140737488355328)
    (h : ∀ v1 w1, OwnB w1 base e v1 (xs ++ [y]) → Below base w0 w1 → W.grownBy w1 v.ownBlock → wpList P ops Q rest (a.put o.dst v1) w1) :
    wpList P ops Q (o :: rest) a (W.alloc (.cells #[.int .u8 y] e)) := by
  obtain ⟨i0, hi, hzz⟩ := Option.map_eq_some_iff.1 hinfo
  simp only [Prod.mk.injEq] at hzz
  obtain ⟨hz0, hz1, hz2⟩ := hzz
  have hbk : ∀ k, v.ownBlock = some k → base ≤ k := by
    obtain ⟨g, cap, cur, fz, rfl, hb, _⟩ := HO
    intro k hk
    have : g = k := by simpa [Value.ownBlock] using hk
    omega
  obtain ⟨v1, w1, hr, hown, hg⟩ := OwnB.run_append (P := P) (w := W.alloc (.cells #[.int .u8 y] e)) base t o.type e i0 ht hi hz0 hz1 hz2 v xs (HO.alloc _) ⟨W.heap.size, 0, none⟩ y (cell_one_new W _ _) hl (by simp; omega)
  refine wpList_plain hgd fun K hK => ?_
  unfold Oper.wp execOp
  simp only [ho, resolve, invoke, builtin, Sem.run_bind, Sem.run_pure, Result.andThen_ok, List.map_toArray, List.map_cons, List.map_nil, hs, hx, hr]
  exact hK _ _ (h v1 w1 hown ((HB.alloc hbase _).grown hg (by simp; omega) hbk) (World.grownBy.trans (World.grownBy_alloc W _ _) hg))
/-- '[]byte(s)', as an event of the walk. -/
theorem OwnB.event {W : World} (hgd : o.guard = none) {N : Tmp} (hd : o.dst = some N) (src dst e : TypeId) (x : Operand) (ho : o.op = .convert src dst x) {u : TypeDesc}
    (hsr : P.underlying src = some u) (hdst : P.underlying dst = some (.slice e)) (he : P.underlying e = some (.int .u8)) (s : ByteArray) (hx : a.eval x = .string s) (hs : s.size ≤ maxLen) {base : Nat} (hb : base ≤ W.heap.size)
    (h : ∀ v1 w1, OwnB w1 base e v1 (bytesOf s) → Below W.heap.size W w1 → v1.ownBlock = some W.heap.size → wpList P ops Q rest (a.put o.dst v1) w1) : wpList P ops Q (o :: rest) a W := by
  have hr := print_bytes (P := P) src dst e hsr hdst he s W
  refine Kd.event_run hgd (v := .slice (some ⟨W.heap.size, 0, none⟩) s.size (grownCap W s.size 0 e)) (w1 := Lib.bytesWorld W e s) ?_ (h _ _ (OwnB.of_string W e s hb hs) (bytes_below (Below.refl _ _) (Nat.le_refl _) e s) rfl)
  simp [execOp, ho, hx, hr]
end
namespace Kd
/-- The same, by the name that the printed walks use: 'd' and 'ok' tell nothing. -/
def B (_d : Kd Int) (e : Nat) (w : World) (base : Nat) (_ok : Nat → Prop) (v : Value) (xs : List Int) : Prop := OwnB w base e v xs
section
variable {d : Kd Int} {e : Nat} {w w1 : World} {base : Nat} {ok ok' : Nat → Prop} {v : Value} {xs : List Int}
theorem B_alloc (h : B d e w base ok v xs) (o : Obj) : B d e (w.alloc o) base ok v xs := OwnB.alloc h o
theorem B_drewN (h : B d e w base ok v xs) (m : Nat) : B d e (w.drewN m) base ok v xs := h
theorem B_drew (h : B d e w base ok v xs) : B d e w.drew base ok v xs := h
theorem B_below (h : B d e w base ok v xs) (hb : Below w.heap.size w w1) : B d e w1 base ok v xs := OwnB.below h hb
theorem B_mono (h : B d e w base ok v xs) (_ : ∀ k, ok k → ok' k) : B d e w base ok' v xs := h
theorem B_lower {base' : Nat} (h : B d e w base ok v xs) (hb : base' ≤ base) : B d e w base' ok v xs := by
  obtain ⟨g, cap, cur, fz, he, h0, r⟩ := h
  exact ⟨g, cap, cur, fz, he, Nat.le_trans hb h0, r⟩
theorem B_slice (h : B d e w base ok v xs) : ∃ A c, v = .slice A xs.length c := by
  obtain ⟨g, cap, rfl, _⟩ := OwnB.slice h
  exact ⟨_, _, rfl⟩
theorem B_form (h : B d e w base ok v xs) (_ : 0 < xs.length) : ∃ g cap, v = .slice (some ⟨g, 0, none⟩) xs.length cap ∧ base ≤ g ∧ g < w.heap.size ∧ ∃ _cells : Array Value, True := by
  obtain ⟨g, cap, cur, fz, he, h0, hc, _⟩ := h
  exact ⟨g, cap, he, h0, blk_lt hc, #[], trivial⟩
theorem B_reads' {A : Option Addr} {n c : Nat} (h : B (Kd.int .u8) e w base ok (.slice A n c) xs) : n = xs.length ∧ n ≤ c ∧ (Kd.int .u8).C w A xs.length xs := by
  have h' := h
  obtain ⟨g, cap, cur, fz, he, hb, hc, hf, hl, hm, hz, ht⟩ := h
  injection he with h1 h2 h3
  subst h1
  subst h3
  refine ⟨h2, by omega, Kd.C_of_reads (enc := Value.int .u8) (d := (0 : Int)) (h1 := fun _ => rfl) ⟨rfl, ?_, fun hp => ⟨⟨g, 0, none⟩, rfl, fun j hj => ?_⟩⟩⟩
  · have := hm; unfold maxLen at this; omega
  · subst h2
    obtain ⟨g', c', e', _, hx, _⟩ := OwnB.at_ h' (j : Int) (by omega) (by omega)
    injection e' with e1 _ _
    injection e1 with e1
    injection e1 with e1
    subst e1
    rw [add_plain]
    exact hx
theorem B_celln (d0 : Int) {g n cap : Nat} (h : B (Kd.int .u8) e w base ok (.slice (some ⟨g, 0, none⟩) n cap) xs) (i : Int) (h0 : 0 ≤ i) (hi : i < n) : w.cell? ⟨g, i.toNat, none⟩ = some (.int .u8 (rd xs i)) ∧ w.frozen? ⟨g, i.toNat, none⟩ = false := by
  obtain ⟨rfl, _⟩ := B_reads' h
  obtain ⟨g', c', e', _, hx, hf, _⟩ := OwnB.at_ h i h0 hi
  injection e' with e1 _ _
  injection e1 with e1
  injection e1 with e1
  subst e1
  exact ⟨hx, hf⟩
theorem B_putg {g n cap : Nat} (h : B (Kd.int .u8) e w base ok (.slice (some ⟨g, 0, none⟩) n cap) xs) (i : Int) (x : Int) :
    B (Kd.int .u8) e (w.setCell ⟨g, i.toNat, none⟩ (.int .u8 x)) base ok (.slice (some ⟨g, 0, none⟩) n cap) (xs.set i.toNat x) ∧ w.grownBy (w.setCell ⟨g, i.toNat, none⟩ (.int .u8 x)) (some g) := by
  obtain ⟨g', cap', cur, fz, he, hb, hc, hf, hl, hm, hz, ht⟩ := h
  injection he with h1 h2 h3
  injection h1 with h1
  injection h1 with h1
  subst h1
  subst h2
  subst h3
  refine ⟨⟨g, cap, cur.setIfInBounds i.toNat (.int .u8 x), fz, by rw [List.length_set], hb, ?_, by simpa using hf, by rw [List.length_set]; exact hl, hm, by simpa using hz, ?_⟩, ⟨rfl, rfl, rfl, by simp [World.setCell], fun k _ hk => Below.heap_setCell _ _ _ _ (fun e => hk (by simp [e]))⟩⟩
  · simp [World.setCell, Array.getElem?_modify, hc]
  · rw [List.length_set, Array.toList_setIfInBounds, List.take_set, ht]
    simp [nums, List.map_set]
end
section
variable {P : Program} {ops : Array Oper} {rest : List Oper} {o : Oper} {a : Act} {Q : Exit → Act → World → Prop}
theorem B_make {w0 W : World} (hgd : o.guard = none) {N : Tmp} (hd : o.dst = some N) (src dst e : TypeId) (x : Operand) (ho : o.op = .convert src dst x) {u : TypeDesc}
    (hsr : P.underlying src = some u) (hdst : P.underlying dst = some (.slice e)) (he : P.underlying e = some (.int .u8)) (s : ByteArray) (hx : a.eval x = .string s) (hs : s.size ≤ maxLen) {base : Nat} (HB : Below base w0 W) (hb : base ≤ W.heap.size)
    (h : ∀ v1 w1, B (Kd.int .u8) e w1 base (fun _ => True) v1 (bytesOf s) → Below base w0 w1 → W.grownBy w1 none → (∃ b, v1.ownBlock = some b ∧ W.heap.size ≤ b) → wpList P ops Q rest (a.put o.dst v1) w1) : wpList P ops Q (o :: rest) a W :=
  OwnB.event hgd hd src dst e x ho hsr hdst he s hx hs hb fun v1 w1 h1 h2 h3 => h v1 w1 h1 (below_then HB hb h2) (grown_of_below h2 none) ⟨_, h3, Nat.le_refl _⟩
end
end Kd
/-- A closure's call, in a region that draws. -/
theorem goesC_ {P : Program} {ops : Array Oper} {Q : Exit → Act → World → Prop} {oi : Oper} {N : Option Tmp} {a : Act} {w : World} {K : Act → World → Prop} {f : FuncId} {fn : Func} {op : Operand} {as : Array Operand} {ts : Array TypeId} (hf : P.funcs[f]? = some fn) (hname : (fn.name == "runtime.NumGoroutine") = false) (hb : fn.body.isSome = true) (first cap args all : Array Value) (hall : first ++ args ++ cap = all)
    (hw : Region.wanted oi (yielded ops a.tmps) = true) (hN : oi.dst = N) (hop : oi.op = .call { callee := .value op, args := as, argTypes := ts }) (hfun : a.eval op = .func (.func f) first cap) (hargs : as.map a.eval = args)
    (h : Calls P f all w fun e w' => ∃ v, e = .returned v ∧ K (a.put N v) w') : if Region.wanted oi (yielded ops a.tmps) = true then Oper.wp P oi a w K Q else K (a.put N undef) w := by
  subst hall
  refine PrintLast.call_ f (first ++ args ++ cap) hw hN ?_ h
  have he := PrintLast.enters_ hf hname hb (first ++ args ++ cap) w
  unfold execOp
  rw [Array.append_assoc] at he ⊢
  simp [hop, resolve, Deferred.ofValue, invoke, hfun, hargs, he]
/-- What is only read, and holds something, does not lie in a block that is none of its footprint. -/
theorem Kd.V_away {α : Type} {d : Kd α} {e : Nat} {W : World} {base : Nat} {ok : Nat → Prop} {v : Value} {xs : List α} {g : Nat} (h : Kd.V d e W base ok v xs) (hok : ∀ k, ok k → k ≠ g)
    (hne : 0 < xs.length := by first | omega | exact of_decide_eq_true (by assumption) | exact Int.ofNat_lt.mp (of_decide_eq_true (by assumption)) | (have h_ := of_eq_true (by assumption); omega) | (have h_ := of_decide_eq_true (by assumption); omega)) (hs : 0 < d.sz := by decide) : some g ≠ v.ownBlock := by
  obtain ⟨A, c, rfl, hl, hf⟩ := h
  intro he
  cases A with
  | none => simp [Value.ownBlock] at he
  | some ad =>
    have hg : g = ad.block := by simpa [Value.ownBlock] using he
    obtain ⟨W', h1, h2, h3⟩ := Kd.emptied_at W g
    exact Kd.C_not_empty (hf W' (fun k hk hlt => h2 k (hok k hk))) hne hs (h3 ad hg.symm)
namespace Kd
section
variable {α : Type} {d : Kd α} {e : Nat} {W : World} {base : Nat} {ok : Nat → Prop} {v : Value} {xs : List α} {ad : Addr} {n c : Nat}
theorem V_beside (h : V d e W base ok (.slice (some ad) n c) xs) {u : Option Nat} (hok : ∀ k, ok k → some k ≠ u)
    (hne : 0 < xs.length := by first | omega | exact of_decide_eq_true (by assumption) | exact Int.ofNat_lt.mp (of_decide_eq_true (by assumption)) | (have h_ := of_eq_true (by assumption); omega) | (have h_ := of_decide_eq_true (by assumption); omega)) (hs : 0 < d.sz := by decide) : some ad.block ≠ u := by
  cases u with
  | none => simp
  | some g =>
    have := V_away h (g := g) (fun k hk e => hok k hk (by rw [e])) hne hs
    intro e
    exact this (by simpa [Value.ownBlock] using e.symm)
theorem V_ltc (h : V d e W base ok (.slice (some ad) n c) xs)
    (hne : 0 < xs.length := by first | omega | exact of_decide_eq_true (by assumption) | exact Int.ofNat_lt.mp (of_decide_eq_true (by assumption)) | (have h_ := of_eq_true (by assumption); omega) | (have h_ := of_decide_eq_true (by assumption); omega)) (hs : 0 < d.sz := by decide) : ad.block < W.heap.size := by
  obtain ⟨_, _, hC⟩ := V_reads' h
  obtain ⟨ad', e1, hc⟩ := hC.2.2 hne
  injection e1 with e1
  subst e1
  obtain ⟨c1, hl, _, hcell⟩ := hc 0 xs[0] (by rw [List.getElem?_eq_getElem hne])
  have := World.block_lt_of_cell? W _ (hcell 0 (c1[0]'(by omega)) (by rw [List.getElem?_eq_getElem (by omega)]))
  rwa [add_block] at this
theorem N_beside (h : N d e W base ok (.slice (some ad) n c) xs) {u : Option Nat} (hok : ∀ k, ok k → some k ≠ u) : some ad.block ≠ u := hok _ (h.1 _ rfl)
theorem N_ltc (h : N d e W base ok (.slice (some ad) n c) xs) : ad.block < W.heap.size := N_lt h _ rfl
theorem R_beside (h : d.R e W base ok (.slice (some ad) n c) xs) {u : Option Nat} (hok : ∀ k, ok k → some k ≠ u) : some ad.block ≠ u := hok _ (h.1 _ rfl)
theorem R_ltc (h : d.R e W base ok (.slice (some ad) n c) xs) : ad.block < W.heap.size := R_lt h _ rfl
end
end Kd
end Go.Proofs.YtekaiebfgcjddaaW.PrintWords
