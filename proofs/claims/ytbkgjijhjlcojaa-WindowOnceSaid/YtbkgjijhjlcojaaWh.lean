/-
  Walks of windows in the document's answer: marks.
-/
import Derived.Test.YtbkgjijhjlcojaaWg
import Derived.StillTailTactics
namespace Go.Proofs.Ytbkgjijhjlcojaa
open Go.RowKit Go.Proofs.Ytbkgjijhjlcojaa.Eager
set_option maxHeartbeats 1000000
set_option linter.unusedVariables false
set_option linter.unusedSimpArgs false

/-- the bits that were moved up, so far -/
def rowY (x y up k : Nat) : List Value := (List.range 128).map fun i => .bool (decide (up ≤ i) && (decide (i < up + k) && bitL x y (i - up)))

theorem length_rowY (x y up k : Nat) : (rowY x y up k).length = 128 := by simp [rowY]
theorem rowY_get (x y up k i : Nat) (h : i < 128) : (rowY x y up k)[i]? = some (.bool (decide (up ≤ i) && (decide (i < up + k) && bitL x y (i - up)))) := by
  simp [rowY, List.getElem?_range h]

theorem rowY_set (x y up k : Nat) (h : k + up < 128) : (rowY x y up k).set (k + up) (.bool (bitL x y k)) = rowY x y up (k + 1) := by
  apply List.ext_getElem?
  intro i
  rw [List.getElem?_set, length_rowY]
  by_cases hi : i < 128
  · rw [rowY_get _ _ _ _ _ hi, rowY_get _ _ _ _ _ hi]
    by_cases e : k + up = i
    · subst e
      rw [if_pos rfl, if_pos h]
      simp [show up ≤ k + up from by omega, show k + up < up + (k + 1) from by omega]
    · rw [if_neg e]
      by_cases h1 : up ≤ i
      · by_cases h2 : i < up + k
        · simp [h2, show i < up + (k + 1) from by omega]
        · simp [h2, show ¬ i < up + (k + 1) from by omega]
      · simp [h1]
  · rw [if_neg (by omega), List.getElem?_eq_none (by rw [length_rowY]; omega), List.getElem?_eq_none (by rw [length_rowY]; omega)]

theorem rowY_skip (x y up k : Nat) (h : 128 ≤ k + up) : rowY x y up (k + 1) = rowY x y up k := by
  apply List.ext_getElem?
  intro i
  by_cases hi : i < 128
  · rw [rowY_get _ _ _ _ _ hi, rowY_get _ _ _ _ _ hi]
    rw [decide_eq_true (show i < up + (k + 1) by omega), decide_eq_true (show i < up + k by omega)]
  · rw [List.getElem?_eq_none (by rw [length_rowY]; omega), List.getElem?_eq_none (by rw [length_rowY]; omega)]

theorem rowY_zero (x y up : Nat) : rowY x y up 0 = List.replicate 128 (.bool false) := by
  apply List.ext_getElem?
  intro i
  by_cases hi : i < 128
  · rw [rowY_get _ _ _ _ _ hi, List.getElem?_replicate, if_pos hi]
    by_cases h : up ≤ i
    · simp [show ¬ i < up from by omega]
    · simp [h]
  · rw [List.getElem?_eq_none (by rw [length_rowY]; omega), List.getElem?_eq_none (by simp; omega)]

/-- the bits behind a number -/
def youngL (x y up p : Nat) : List Bool := (List.range 128).map fun i => decide (i = p) || (decide (up ≤ i) && bitL x y (i - up))
theorem length_youngL (x y up p : Nat) : (youngL x y up p).length = 128 := by simp [youngL]

theorem rowY_young (x y up p : Nat) (hp : p < 128) : (rowY x y up 128).set p (.bool true) = (youngL x y up p).map Value.bool := by
  apply List.ext_getElem?
  intro i
  rw [List.getElem?_set, length_rowY]
  by_cases hi : i < 128
  · rw [rowY_get _ _ _ _ _ hi]
    simp only [youngL, List.map_map, List.getElem?_map, List.getElem?_range hi, Option.map_some, Function.comp]
    by_cases e : p = i
    · subst e; simp [hp]
    · rw [if_neg e]
      simp [show ¬ i = p from fun h => e h.symm, show i < up + 128 from by omega]
  · rw [if_neg (by omega), List.getElem?_eq_none (by rw [length_rowY]; omega), List.getElem?_eq_none (by simp [length_youngL]; omega)]

theorem Cells.setOther {w : World} {bb o : Nat} {cs : List Value} (h : Cells w (some ⟨bb, o, none⟩) cs) {a : Addr} (ha : a.block ≠ bb) (u : Value) : Cells (w.setCell a u) (some ⟨bb, o, none⟩) cs := by
  intro i hi
  obtain ⟨b, o', e, hc⟩ := h i hi
  simp at e
  obtain ⟨rfl, rfl⟩ := e
  exact ⟨bb, o, rfl, by rw [World.cell?_setCell_far _ _ _ _ ha]; exact hc⟩

/-- how things stand in the round -/
structure Inv9 (wr w : World) (g bb o : Nat) (T : Int) (x y up k : Nat) : Prop where
  own : wr.ownsRow g 4 1 (.slice (some ⟨g, 0, none⟩) 128 128) 128 (rowY x y up k)
  old : Cells wr (some ⟨bb, o, none⟩) ((bl x y).map Value.bool)
  box : Cell3 wr w.heap.size (.int .i64 T) (.int .u64 (x : Int)) (.int .u64 (y : Int))
  res : Cell3 wr (w.heap.size + 1) (.int .i64 0) (.int .u64 0) (.int .u64 0)
  bel : Below w.heap.size w wr

theorem Inv9.store {wr w : World} {g bb o : Nat} {T : Int} {x y up k : Nat} (h : Inv9 wr w g bb o T x y up k) (h1 : g ≠ bb) (h2 : w.heap.size + 1 < g) (hk : k + up < 128) :
    Inv9 (wr.setCell ⟨g, k + up, none⟩ (.bool (bitL x y k))) w g bb o T x y up (k + 1) := by
  obtain ⟨own, old, box, res, bel⟩ := h
  have hst := (own.stored (k + up) (.bool (bitL x y k))).1
  rw [rowY_set _ _ _ _ hk] at hst
  exact ⟨hst, old.setOther (a := ⟨g, k + up, none⟩) h1 _, box.setOther (a := ⟨g, k + up, none⟩) (by show g ≠ _; omega) _, res.setOther (a := ⟨g, k + up, none⟩) (by show g ≠ _; omega) _, bel.setCell (p := ⟨g, k + up, none⟩) (by show _ ≤ g; omega) _⟩

theorem Inv9.skip {wr w : World} {g bb o : Nat} {T : Int} {x y up k : Nat} (h : Inv9 wr w g bb o T x y up k) (hk : 128 ≤ k + up) : Inv9 wr w g bb o T x y up (k + 1) := by
  obtain ⟨own, old, box, res, bel⟩ := h
  rw [← rowY_skip _ _ _ _ hk] at own
  exact ⟨own, old, box, res, bel⟩

theorem mark9_0 (t : Int) (x y : Nat) (n : Int) (w : World) (hx : Hid (x < 18446744073709551616)) (hy : Hid (y < 18446744073709551616)) (h : (freshL t x y n != 0) = true) :
    Calls Try.prog 9 #[.agg #[.int .i64 t, .int .u64 (x : Int), .int .u64 (y : Int)], .int .i64 n] w fun r w' => r = .returned (.agg #[.int .i64 t, .int .u64 (x : Int), .int .u64 (y : Int)]) ∧ Below w.heap.size w w' := by
  have H := fun W => Lib.hid (fresh7 t x y n W hx hy)
  generalize freshL t x y n = f at *
  go_enter Try.func9, Try.ntmps9
  go_wp2_with fail
  refine (H _).out.mono ?_
  rintro r w1 ⟨rfl, hb1⟩
  have h1 := below_step (below_alloc2 w _ _) hb1
  obtain ⟨c0, c1, c2, g0, g1, g2⟩ := (Cell3.boxed w (.int .i64 t) (.int .u64 (x : Int)) (.int .u64 (y : Int)) 24 _).later hb1
  obtain ⟨d0, d1, d2, f0, f1, f2⟩ := (Cell3.fresh w (.int .i64 0) (.int .u64 0) (.int .u64 0) 24 _).later hb1
  clear hb1
  have CR : Cell3 w1 (w.heap.size + 1) (.int .i64 0) (.int .u64 0) (.int .u64 0) := ⟨d0, d1, d2, f0, f1, f2⟩
  have CS := Lib.hid (((CR.set0 (.int .i64 t)).set1 (.int .u64 (x : Int))).set2 (.int .u64 (y : Int))); clear CR
  go_wp2
  obtain ⟨e0, e1, e2, -, -, -⟩ := CS.out
  exact bodyPost_ret (v := .agg #[.int .i64 t, .int .u64 (x : Int), .int .u64 (y : Int)]) (by simp [results, Try.results9, go_sem, e0, e1, e2]) rfl ⟨rfl, ((h1.setCell (by simp) _).setCell (by simp) _).setCell (by simp) _⟩

theorem mark9_1 (t : Int) (x y up : Nat) (n d : Int) (w : World) (hx : Hid (x < 18446744073709551616)) (hy : Hid (y < 18446744073709551616)) (h : (freshL t x y n != 0) = false) (hn : decide (t < n) = true)
    (hd : IntKind.i64.wrap (n - t) = (up : Int))
    (hup : Hid (up ≤ 1073741824)) (hp : Hid (0 < 128))  :
    Calls Try.prog 9 #[.agg #[.int .i64 t, .int .u64 (x : Int), .int .u64 (y : Int)], .int .i64 n] w fun r w' => r = .returned (.agg #[.int .i64 n, .int .u64 ((numL (fun i => (youngL x y up 0).getD (0 + i) false) 64 : Nat) : Int), .int .u64 ((numL (fun i => (youngL x y up 0).getD (64 + i) false) 64 : Nat) : Int)]) ∧ Below w.heap.size w w' := by
  have H := fun W => Lib.hid (fresh7 t x y n W hx hy)
  obtain ⟨i4, hi, hz0, hz1, hz2⟩ := info_parts (show (Try.prog.info? 4).map (fun i => (i.zero, i.size, i.bytes)) = some (some (.bool false), 1, 1) from by kernel_rfl)
  generalize freshL t x y n = f at *
  go_enter Try.func9, Try.ntmps9
  go_wp2_with fail
  refine (H _).out.mono ?_
  rintro r w1 ⟨rfl, hb1⟩
  have h1 := below_step (below_alloc2 w _ _) hb1
  have C := (Cell3.boxed w (.int .i64 t) (.int .u64 (x : Int)) (.int .u64 (y : Int)) 24 _).later hb1
  have D := (Cell3.fresh w (.int .i64 0) (.int .u64 0) (.int .u64 0) 24 _).later hb1
  obtain ⟨c0, c1, c2, g0, g1, g2⟩ := id C
  clear hb1 H
  go_wp2_with fail
  refine (bits17b t x y _ hx hy).mono ?_
  rintro r w2 ⟨oa, c, rfl, hcs, hb2, hbb⟩
  clear c0 c1 c2 g0 g1 g2
  have hlt1 : w.heap.size + 1 < w1.heap.size := World.block_lt_of_cell? w1 ⟨w.heap.size + 1, 0, none⟩ D.c0
  have hsz2 := hb2.size
  replace h1 := below_step h1 hb2
  replace C := C.later hb2
  replace D := D.later hb2
  clear hb2
  obtain ⟨bb, o, rfl, hblt, -⟩ := hcs.at' (i := 0) (by rw [List.length_map, length_bl]; omega)
  have hbb1 := hbb bb o rfl
  clear hbb
  go_wp2_with (at_make; refine wpList_make_full _ rfl (.const (.int .i64 128)) (.const (.int .i64 128)) 40 rfl w2.heap.size 4 i4 (.bool false) 1 Try.underlying40 hi hz0 hz1 .i64 .i64 _ _ 128 rfl rfl rfl rfl ?c1 ?c2 ?c3 ?_)
  case c1 => rw [hz2]; omega
  case c2 => unfold maxLen; omega
  case c3 => exact Nat.le_refl _
  intro w3 hown hgrow
  have hb3 : Below w2.heap.size w2 w3 := (Below.refl _ _).grown hgrow (Nat.le_refl _) (by simp)
  replace h1 := below_step h1 hb3
  replace C := C.later hb3
  replace D := D.later hb3
  have hcs3 := hcs.below hb3 (Nat.le_refl _)
  clear hb3 hgrow hcs
  replace hown : w3.ownsRow w2.heap.size 4 1 (.slice (some ⟨w2.heap.size, 0, none⟩) 128 128) 128 (rowY x y up 0) := by
    rw [rowY_zero]; simpa [toList_madeCells_one] using hown
  obtain ⟨c0, c1, c2, g0, g1, g2⟩ := id C
  have INV : Hid (Inv9 (w3.setCell ⟨w.heap.size, 0, none⟩ (.int .i64 n)) w w2.heap.size bb o n x y up 0) := by
    refine ⟨?_, hcs3.setOther (a := ⟨w.heap.size, 0, none⟩) (by show w.heap.size ≠ bb; omega) _, C.set0 _, D.setOther (a := ⟨w.heap.size, 0, none⟩) (by show w.heap.size ≠ w.heap.size + 1; omega) _, h1.setCell (p := ⟨w.heap.size, 0, none⟩) (Nat.le_refl _) _⟩
    exact ownsRow_setCell_below hown (a := ⟨w.heap.size, 0, none⟩) (by show w.heap.size < w2.heap.size; omega) _
  clear hown hcs3 C D h1
  have n1 : w2.heap.size ≠ bb := by omega
  have n2 : w.heap.size + 1 < w2.heap.size := by omega
  generalize w2.heap.size = g at *
  go_wp2
  clear c0 c1 c2 g0 g1 g2 hn hd h hi hz0 hz1 hz2 hlt1 hsz2 hblt hbb1
  go_loopw [8] (fun i wr => ∃ k : Nat, k ≤ 128 ∧ i = .int .i64 k ∧ Hid (Inv9 wr w g bb o n x y up k)) (fun i _ => 128 - (intOf i).toNat)
  case atStart => exact ⟨0, by omega, rfl, INV⟩
  case round =>
    obtain ⟨k, hk, rfl, hinv⟩ := hrel
    clear INV
    by_cases hlt : k < 128
    · obtain ⟨m, hm⟩ : ∃ m : Int, 128 - (k : Int) = m := ⟨_, rfl⟩
      have h128 : IntKind.i64.wrap (128 - (k : Int)) = m := by rw [IntKind.wrap_i64]; omega
      have HM := Lib.hid hm; clear hm
      by_cases hfit : k + up < 128
      · have hdec : decide ((up : Int) < m) = true := by have := HM.out; have := hup.out; simp; omega
        obtain ⟨b', o', e', hblt', hc⟩ := hinv.out.old.at' (i := k) (by rw [List.length_map, length_bl]; exact hlt)
        simp at e'
        obtain ⟨rfl, rfl⟩ := e'
        rw [List.getElem_map, bl_get _ _ _ hlt] at hc
        obtain ⟨vo, hc3⟩ : ∃ v, wr.cell? ⟨g, k + up, none⟩ = some v := ⟨_, (hinv.out.own.cellAt (k + up) (by omega)).trans (rowY_get _ _ _ _ _ hfit)⟩
        have hfz := hinv.out.own.frozenAt (k + up)
        have HI := Lib.hid (hinv.out.store n1 n2 hfit)
        have hq : IntKind.i64.wrap ((k : Int) + (up : Int)) = ((k + up : Nat) : Int) := by have := hup.out; rw [IntKind.wrap_i64]; omega
        have hq2 : ((k + up : Nat) : Int) < 128 := by omega
        have hk2 : (k : Int) < 128 := by omega
        clear hinv
        generalize bitL x y k = bk at *
        generalize k + up = q at *
        go_wp2
        go_roundw
        case rel => exact ⟨k + 1, by omega, by go_num, HI⟩
        case measure => simp [intOf]; omega
      · have hdec : decide ((up : Int) < m) = false := by have := HM.out; have := hup.out; simp; omega
        have HI := Lib.hid (hinv.out.skip (by omega))
        have hk2 : (k : Int) < 128 := by omega
        clear hinv hfit
        go_wp2
        go_roundw
        case rel => exact ⟨k + 1, by omega, by go_num, HI⟩
        case measure => simp [intOf]; omega
    · obtain rfl : k = 128 := by omega
      obtain ⟨own, old, box, res, bel⟩ := hinv.out
      obtain ⟨c0, c1, c2, g0, g1, g2⟩ := id box
      obtain ⟨vo, hc3⟩ : ∃ v, wr.cell? ⟨g, 0, none⟩ = some v := ⟨_, (own.cellAt 0 (by have := hp.out; omega)).trans (rowY_get _ _ _ _ _ hp.out)⟩
      have hfz := own.frozenAt 0
      have hp2 : True := trivial
      have hst := (own.stored 0 (.bool true)).1
      rw [rowY_young _ _ _ _ hp.out] at hst
      replace box := box.setOther (a := ⟨g, 0, none⟩) (by show g ≠ _; omega) (.bool true)
      replace res := res.setOther (a := ⟨g, 0, none⟩) (by show g ≠ _; omega) (.bool true)
      replace bel := bel.setCell (p := ⟨g, 0, none⟩) (by show _ ≤ g; omega) (.bool true)
      have HST := Lib.hid hst; have HBOX := Lib.hid box; have HRES := Lib.hid res; have HBEL := Lib.hid bel
      clear own old box res bel hst hinv hk hlt
      have hwp : IntKind.i64.wrap (n - n) = 0 := by rw [Int.sub_self]; rfl
      rw [show ((128 : Nat) : Int) = 128 from rfl]
      go_wp2_with fail
      have C2 := HBOX.out.drew
      have R2 := HRES.out.drew
      have B2 := HBEL.out.drew
      have hown2 := HST.out.drew
      clear HST HBOX HRES HBEL c0 c1 c2 g0 g1 g2 hc3 hfz
      refine wp_region_still_tail 7 (by kernel_rfl) (by kernel_rfl) ?_
      simp only [List.take_succ_cons, List.take_zero, List.drop_succ_cons, List.drop_zero]
      change wpStill _ _ (World.drew _) (fun a' => wpList _ _ _ _ a' (World.drew _)) _ _
      generalize World.drew (wr.setCell ⟨g, 0, none⟩ (.bool true)) = W5 at *
      obtain ⟨c0, c1, c2, -, -, -⟩ := C2
      obtain ⟨oa', c', hv', hn', hcs'⟩ := Cells.of_owns hown2
      simp only [Value.slice.injEq] at hv'
      obtain ⟨rfl, -, -⟩ := hv'
      have hlen := length_youngL x y up 0
      have hcells := Lib.hid hcs'
      clear hcs' hn' hown2
      have hl2 := Lib.hid hlen; clear hlen
      generalize hyl : youngL x y up 0 = yl at *
      have HYL := Lib.hid hyl; clear hyl
      have N0 := Lib.hid (number20 (some ⟨g, 0, none⟩) yl 128 0 W5 hcells hl2 (by show (0 : Nat) + 64 ≤ 128; omega))
      have N1 := Lib.hid (number20 (some ⟨g, 0, none⟩) yl 128 64 W5 hcells hl2 (by show (64 : Nat) + 64 ≤ 128; omega))
      generalize hlo : numL (fun i => yl.getD (0 + i) false) 64 = lo at *
      have HLO := Lib.hid hlo; clear hlo
      generalize hhi : numL (fun i => yl.getD (64 + i) false) 64 = hi at *
      have HHI := Lib.hid hhi; clear hhi
      obtain ⟨d0, d1, d2, f0, f1, f2⟩ := id R2
      have CS := Lib.hid (((R2.set0 (.int .i64 n)).set1 (.int .u64 (lo : Int))).set2 (.int .u64 (hi : Int)))
      clear R2
      repeat still_step
      still_call N0.out
      repeat still_step
      still_call N1.out
      repeat still_step
      refine wpStill_nil ?_
      clear c0 c1 c2
      go_wp2
      clear d0 d1 d2
      obtain ⟨e0, e1, e2, -, -, -⟩ := CS.out
      refine bodyPost_ret (v := .agg #[.int .i64 n, .int .u64 (lo : Int), .int .u64 (hi : Int)]) (by simp [results, Try.results9, go_sem, e0, e1, e2]) rfl ⟨?_, ((B2.setCell (by simp) _).setCell (by simp) _).setCell (by simp) _⟩
      rw [HYL.out, HLO.out, HHI.out]

theorem mark9_2 (t : Int) (x y p : Nat) (n d : Int) (w : World) (hx : Hid (x < 18446744073709551616)) (hy : Hid (y < 18446744073709551616)) (h : (freshL t x y n != 0) = false) (hn : decide (t < n) = false)
    (hup : Hid (0 ≤ 1073741824)) (hp : Hid (p < 128)) (hwp : IntKind.i64.wrap (t - n) = (p : Int)) :
    Calls Try.prog 9 #[.agg #[.int .i64 t, .int .u64 (x : Int), .int .u64 (y : Int)], .int .i64 n] w fun r w' => r = .returned (.agg #[.int .i64 t, .int .u64 ((numL (fun i => (youngL x y 0 p).getD (0 + i) false) 64 : Nat) : Int), .int .u64 ((numL (fun i => (youngL x y 0 p).getD (64 + i) false) 64 : Nat) : Int)]) ∧ Below w.heap.size w w' := by
  have H := fun W => Lib.hid (fresh7 t x y n W hx hy)
  obtain ⟨i4, hi, hz0, hz1, hz2⟩ := info_parts (show (Try.prog.info? 4).map (fun i => (i.zero, i.size, i.bytes)) = some (some (.bool false), 1, 1) from by kernel_rfl)
  generalize freshL t x y n = f at *
  go_enter Try.func9, Try.ntmps9
  go_wp2_with fail
  refine (H _).out.mono ?_
  rintro r w1 ⟨rfl, hb1⟩
  have h1 := below_step (below_alloc2 w _ _) hb1
  have C := (Cell3.boxed w (.int .i64 t) (.int .u64 (x : Int)) (.int .u64 (y : Int)) 24 _).later hb1
  have D := (Cell3.fresh w (.int .i64 0) (.int .u64 0) (.int .u64 0) 24 _).later hb1
  obtain ⟨c0, c1, c2, g0, g1, g2⟩ := id C
  clear hb1 H
  go_wp2_with fail
  refine (bits17b t x y _ hx hy).mono ?_
  rintro r w2 ⟨oa, c, rfl, hcs, hb2, hbb⟩
  clear c0 c1 c2 g0 g1 g2
  have hlt1 : w.heap.size + 1 < w1.heap.size := World.block_lt_of_cell? w1 ⟨w.heap.size + 1, 0, none⟩ D.c0
  have hsz2 := hb2.size
  replace h1 := below_step h1 hb2
  replace C := C.later hb2
  replace D := D.later hb2
  clear hb2
  obtain ⟨bb, o, rfl, hblt, -⟩ := hcs.at' (i := 0) (by rw [List.length_map, length_bl]; omega)
  have hbb1 := hbb bb o rfl
  clear hbb
  go_wp2_with (at_make; refine wpList_make_full _ rfl (.const (.int .i64 128)) (.const (.int .i64 128)) 40 rfl w2.heap.size 4 i4 (.bool false) 1 Try.underlying40 hi hz0 hz1 .i64 .i64 _ _ 128 rfl rfl rfl rfl ?c1 ?c2 ?c3 ?_)
  case c1 => rw [hz2]; omega
  case c2 => unfold maxLen; omega
  case c3 => exact Nat.le_refl _
  intro w3 hown hgrow
  have hb3 : Below w2.heap.size w2 w3 := (Below.refl _ _).grown hgrow (Nat.le_refl _) (by simp)
  replace h1 := below_step h1 hb3
  replace C := C.later hb3
  replace D := D.later hb3
  have hcs3 := hcs.below hb3 (Nat.le_refl _)
  clear hb3 hgrow hcs
  replace hown : w3.ownsRow w2.heap.size 4 1 (.slice (some ⟨w2.heap.size, 0, none⟩) 128 128) 128 (rowY x y 0 0) := by
    rw [rowY_zero]; simpa [toList_madeCells_one] using hown
  obtain ⟨c0, c1, c2, g0, g1, g2⟩ := id C
  have INV : Hid (Inv9 w3 w w2.heap.size bb o t x y 0 0) := ⟨hown, hcs3, C, D, h1⟩
  clear hown hcs3 C D h1
  have n1 : w2.heap.size ≠ bb := by omega
  have n2 : w.heap.size + 1 < w2.heap.size := by omega
  generalize w2.heap.size = g at *
  go_wp2
  clear c0 c1 c2 g0 g1 g2 hn h hi hz0 hz1 hz2 hlt1 hsz2 hblt hbb1
  have HWP := Lib.hid hwp; clear hwp
  go_loopw [8] (fun i wr => ∃ k : Nat, k ≤ 128 ∧ i = .int .i64 k ∧ Hid (Inv9 wr w g bb o t x y 0 k)) (fun i _ => 128 - (intOf i).toNat)
  case atStart => exact ⟨0, by omega, rfl, INV⟩
  case round =>
    obtain ⟨k, hk, rfl, hinv⟩ := hrel
    clear INV
    by_cases hlt : k < 128
    · obtain ⟨m, hm⟩ : ∃ m : Int, 128 - (k : Int) = m := ⟨_, rfl⟩
      have h128 : IntKind.i64.wrap (128 - (k : Int)) = m := by rw [IntKind.wrap_i64]; omega
      have HM := Lib.hid hm; clear hm
      by_cases hfit : k + 0 < 128
      · have hdec : decide ((0 : Int) < m) = true := by have := HM.out; simp; omega
        obtain ⟨b', o', e', hblt', hc⟩ := hinv.out.old.at' (i := k) (by rw [List.length_map, length_bl]; exact hlt)
        simp at e'
        obtain ⟨rfl, rfl⟩ := e'
        rw [List.getElem_map, bl_get _ _ _ hlt] at hc
        obtain ⟨vo, hc3⟩ : ∃ v, wr.cell? ⟨g, k + 0, none⟩ = some v := ⟨_, (hinv.out.own.cellAt (k + 0) (by omega)).trans (rowY_get _ _ _ _ _ hfit)⟩
        have hfz := hinv.out.own.frozenAt (k + 0)
        have HI := Lib.hid (hinv.out.store n1 n2 hfit)
        have hq : IntKind.i64.wrap ((k : Int) + (0 : Int)) = ((k + 0 : Nat) : Int) := by rw [IntKind.wrap_i64]; omega
        have hq2 : ((k + 0 : Nat) : Int) < 128 := by omega
        have hk2 : (k : Int) < 128 := by omega
        have hq3 : IntKind.i64.wrap (k : Int) = ((k + 0 : Nat) : Int) := by rw [IntKind.wrap_i64]; omega
        clear hinv
        generalize bitL x y k = bk at *
        generalize k + 0 = q at *
        go_wp2
        go_roundw
        case rel => exact ⟨k + 1, by omega, by go_num, HI⟩
        case measure => simp [intOf]; omega
      · have hdec : decide ((0 : Int) < m) = false := by have := HM.out; simp; omega
        have HI := Lib.hid (hinv.out.skip (by omega))
        have hk2 : (k : Int) < 128 := by omega
        clear hinv hfit
        go_wp2
        go_roundw
        case rel => exact ⟨k + 1, by omega, by go_num, HI⟩
        case measure => simp [intOf]; omega
    · obtain rfl : k = 128 := by omega
      obtain ⟨own, old, box, res, bel⟩ := hinv.out
      obtain ⟨c0, c1, c2, g0, g1, g2⟩ := id box
      obtain ⟨vo, hc3⟩ : ∃ v, wr.cell? ⟨g, p, none⟩ = some v := ⟨_, (own.cellAt p (by have := hp.out; omega)).trans (rowY_get _ _ _ _ _ hp.out)⟩
      have hfz := own.frozenAt p
      have hp2 : (p : Int) < 128 := by have := hp.out; omega
      have hst := (own.stored p (.bool true)).1
      rw [rowY_young _ _ _ _ hp.out] at hst
      replace box := box.setOther (a := ⟨g, p, none⟩) (by show g ≠ _; omega) (.bool true)
      replace res := res.setOther (a := ⟨g, p, none⟩) (by show g ≠ _; omega) (.bool true)
      replace bel := bel.setCell (p := ⟨g, p, none⟩) (by show _ ≤ g; omega) (.bool true)
      have HST := Lib.hid hst; have HBOX := Lib.hid box; have HRES := Lib.hid res; have HBEL := Lib.hid bel
      clear own old box res bel hst hinv hk hlt
      have hwp := HWP.out
      rw [show ((128 : Nat) : Int) = 128 from rfl]
      go_wp2_with fail
      have C2 := HBOX.out.drew
      have R2 := HRES.out.drew
      have B2 := HBEL.out.drew
      have hown2 := HST.out.drew
      clear HST HBOX HRES HBEL c0 c1 c2 g0 g1 g2 hc3 hfz
      refine wp_region_still_tail 7 (by kernel_rfl) (by kernel_rfl) ?_
      simp only [List.take_succ_cons, List.take_zero, List.drop_succ_cons, List.drop_zero]
      change wpStill _ _ (World.drew _) (fun a' => wpList _ _ _ _ a' (World.drew _)) _ _
      generalize World.drew (wr.setCell ⟨g, p, none⟩ (.bool true)) = W5 at *
      obtain ⟨c0, c1, c2, -, -, -⟩ := C2
      obtain ⟨oa', c', hv', hn', hcs'⟩ := Cells.of_owns hown2
      simp only [Value.slice.injEq] at hv'
      obtain ⟨rfl, -, -⟩ := hv'
      have hlen := length_youngL x y 0 p
      have hcells := Lib.hid hcs'
      clear hcs' hn' hown2
      have hl2 := Lib.hid hlen; clear hlen
      generalize hyl : youngL x y 0 p = yl at *
      have HYL := Lib.hid hyl; clear hyl
      have N0 := Lib.hid (number20 (some ⟨g, 0, none⟩) yl 128 0 W5 hcells hl2 (by show (0 : Nat) + 64 ≤ 128; omega))
      have N1 := Lib.hid (number20 (some ⟨g, 0, none⟩) yl 128 64 W5 hcells hl2 (by show (64 : Nat) + 64 ≤ 128; omega))
      generalize hlo : numL (fun i => yl.getD (0 + i) false) 64 = lo at *
      have HLO := Lib.hid hlo; clear hlo
      generalize hhi : numL (fun i => yl.getD (64 + i) false) 64 = hi at *
      have HHI := Lib.hid hhi; clear hhi
      obtain ⟨d0, d1, d2, f0, f1, f2⟩ := id R2
      have CS := Lib.hid (((R2.set0 (.int .i64 t)).set1 (.int .u64 (lo : Int))).set2 (.int .u64 (hi : Int)))
      clear R2
      repeat still_step
      still_call N0.out
      repeat still_step
      still_call N1.out
      repeat still_step
      refine wpStill_nil ?_
      clear c0 c1 c2
      go_wp2
      clear d0 d1 d2
      obtain ⟨e0, e1, e2, -, -, -⟩ := CS.out
      refine bodyPost_ret (v := .agg #[.int .i64 t, .int .u64 (lo : Int), .int .u64 (hi : Int)]) (by simp [results, Try.results9, go_sem, e0, e1, e2]) rfl ⟨?_, ((B2.setCell (by simp) _).setCell (by simp) _).setCell (by simp) _⟩
      rw [HYL.out, HLO.out, HHI.out]

end Go.Proofs.Ytbkgjijhjlcojaa
