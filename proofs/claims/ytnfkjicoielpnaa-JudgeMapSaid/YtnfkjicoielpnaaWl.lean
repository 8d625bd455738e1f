/-
  Walks: the chapter's example; the first law.
-/
import Derived.Test.YtnfkjicoielpnaaWk
namespace Go.Proofs.Ytnfkjicoielpnaa
open Go.RowKit
set_option maxHeartbeats 2000000
set_option maxRecDepth 20000
set_option linter.unusedVariables false
set_option linter.unusedSimpArgs false

def kk : ByteArray := ⟨#[107]⟩
def vv : ByteArray := ⟨#[118]⟩
def put1 : Res := ⟨0, 1, 1, ⟨#[107]⟩, ⟨#[118]⟩, true, false, 0⟩
def get2 : Res := ⟨0, 3, 2, ⟨#[107]⟩, ⟨#[118]⟩, true, false, 0⟩
theorem ex_map : mapD [put1] = [⟨⟨#[107]⟩, ⟨#[118]⟩, 1, false⟩] := by
  simp [mapD, stsOf, keysOf, addKey, ofKey, known, after, mapUp, itOf, put1, st0]
theorem ex_judge2 : judgeD [put1, get2] = 1 := by
  apply judgeD_at (k := 1)
  · simp
  · intro j hj
    obtain rfl : j = 0 := by omega
    simp [fitAt, ofKey, known, put1, st0, fits]
  · simp [fitAt, ofKey, known, put1, get2, st0, fits, after, got, seen]
theorem ex_judge1 : judgeD [put1] = -1 := by
  apply judgeD_none
  intro j hj
  obtain rfl : j = 0 := by simpa using hj
  simp [fitAt, ofKey, known, put1, st0, fits]
theorem ex_keys : (keysOf [put1, get2]).length = 1 := by simp [keysOf, addKey, put1, get2]

theorem works15 (w : World) : Calls Try.prog 15 #[] w fun r w' => r = .returned (.bool true) ∧ Below w.heap.size w w' := by
  have HB0 : Hid (Below w.heap.size w (((w.alloc (.cells put1.cells.toArray 36)).alloc (.cells get2.cells.toArray 36)).alloc (.cells put1.cells.toArray 36))) := by (with_reducible try refine Lib.hid ?_); (repeat (with_reducible first | assumption | exact Below.refl _ _ | apply Below.drew | apply Below.drewN' | apply Below.setCell | apply Below.alloc)) <;> (try simp [length_fillTo, length_turnTo]) <;> (try omega)
  have HX0 : Hid (Blk (((w.alloc (.cells put1.cells.toArray 36)).alloc (.cells get2.cells.toArray 36)).alloc (.cells put1.cells.toArray 36)) w.heap.size put1.cells) := ((Blk.new' rfl).alloc _).alloc _
  have HY0 : Hid (Blk (((w.alloc (.cells put1.cells.toArray 36)).alloc (.cells get2.cells.toArray 36)).alloc (.cells put1.cells.toArray 36)) (w.heap.size + 1) get2.cells) := Blk.alloc (Blk.new' (by simp)) _
  have HR0 : Hid (RRes (((w.alloc (.cells put1.cells.toArray 36)).alloc (.cells get2.cells.toArray 36)).alloc (.cells put1.cells.toArray 36)) (some ⟨w.heap.size + 1 + 1, 0, none⟩) 1 1 [put1]) := Rws.one (Blk.new' (by simp))
  go_enter Try.func15, Try.ntmps15
  go_wp2_with fail
  refine (map10 [put1] _ _ 1 1 HR0.out (by simp)).mono ?_
  rintro r w1 ⟨⟨om, cm, rfl, hRm⟩, hb1⟩
  rw [ex_map] at hRm ⊢
  have hX1 := HX0.out.later hb1; have hY1 := HY0.out.later hb1; have hB1 := below_step HB0.out hb1
  clear hb1 HB0 HX0 HY0 HR0
  obtain ⟨bm, pm, rfl, hbm, m0, m1, m2, m3⟩ := hRm.rows.it (i := 0) (by simp)
  simp only [List.getElem_cons_zero, Nat.zero_mul, Nat.add_zero] at m0 m1 m2 m3
  have x0 := hX1.at' 0 (by simp [Res.cells]); have x1 := hX1.at' 1 (by simp [Res.cells]); have x2 := hX1.at' 2 (by simp [Res.cells]); have x3 := hX1.at' 3 (by simp [Res.cells]); have x4 := hX1.at' 4 (by simp [Res.cells]); have x5 := hX1.at' 5 (by simp [Res.cells]); have x6 := hX1.at' 6 (by simp [Res.cells]); have x7 := hX1.at' 7 (by simp [Res.cells])
  have y0 := hY1.at' 0 (by simp [Res.cells]); have y1 := hY1.at' 1 (by simp [Res.cells]); have y2 := hY1.at' 2 (by simp [Res.cells]); have y3 := hY1.at' 3 (by simp [Res.cells]); have y4 := hY1.at' 4 (by simp [Res.cells]); have y5 := hY1.at' 5 (by simp [Res.cells]); have y6 := hY1.at' 6 (by simp [Res.cells]); have y7 := hY1.at' 7 (by simp [Res.cells])
  simp only [Res.cells, put1, get2, List.getElem_cons_zero, List.getElem_cons_succ] at x0 x1 x2 x3 x4 x5 x6 x7 y0 y1 y2 y3 y4 y5 y6 y7
  have HX1 := Lib.hid hX1; have HY1 := Lib.hid hY1; have HB1 := Lib.hid hB1
  have hal : Below w1.heap.size w1 (w1.alloc (.cells (put1.cells ++ get2.cells).toArray 36)) := (Below.refl _ _).alloc (Nat.le_refl _) _
  have HR2 : Hid (RRes (w1.alloc (.cells (put1.cells ++ get2.cells).toArray 36)) (some ⟨w1.heap.size, 0, none⟩) 2 2 [put1, get2]) := Rws.two (Blk.new' rfl)
  have HAL := Lib.hid hal
  clear hX1 hY1 hB1 hRm hal
  go_wp2_with fail
  refine (judge7 [put1, get2] _ _ 2 2 HR2.out (by simp)).mono ?_
  rintro r w2 ⟨rfl, hb2⟩
  rw [ex_judge2]
  have hb2' := below_step HAL.out hb2
  clear hb2
  replace x0 := cell_later x0 hb2'; replace x1 := cell_later x1 hb2'; replace x2 := cell_later x2 hb2'; replace x3 := cell_later x3 hb2'; replace x4 := cell_later x4 hb2'; replace x5 := cell_later x5 hb2'; replace x6 := cell_later x6 hb2'; replace x7 := cell_later x7 hb2'
  replace y0 := cell_later y0 hb2'; replace y1 := cell_later y1 hb2'; replace y2 := cell_later y2 hb2'; replace y3 := cell_later y3 hb2'; replace y4 := cell_later y4 hb2'; replace y5 := cell_later y5 hb2'; replace y6 := cell_later y6 hb2'; replace y7 := cell_later y7 hb2'
  replace m0 := cell_later m0 hb2'; replace m1 := cell_later m1 hb2'; replace m2 := cell_later m2 hb2'; replace m3 := cell_later m3 hb2'
  replace HX1 := Lib.hid (HX1.out.later hb2'); replace HY1 := Lib.hid (HY1.out.later hb2'); replace HB1 := Lib.hid (below_step HB1.out hb2')
  clear hb2' HAL HR2
  have hal : Below w2.heap.size w2 (w2.alloc (.cells put1.cells.toArray 36)) := (Below.refl _ _).alloc (Nat.le_refl _) _
  have HR3 : Hid (RRes (w2.alloc (.cells put1.cells.toArray 36)) (some ⟨w2.heap.size, 0, none⟩) 1 1 [put1]) := Rws.one (Blk.new' rfl)
  have HAL := Lib.hid hal; clear hal
  go_wp2_with fail
  refine (judge7 [put1] _ _ 1 1 HR3.out (by simp)).mono ?_
  rintro r w3 ⟨rfl, hb2⟩
  rw [ex_judge1]
  have hb2' := below_step HAL.out hb2
  clear hb2
  replace x0 := cell_later x0 hb2'; replace x1 := cell_later x1 hb2'; replace x2 := cell_later x2 hb2'; replace x3 := cell_later x3 hb2'; replace x4 := cell_later x4 hb2'; replace x5 := cell_later x5 hb2'; replace x6 := cell_later x6 hb2'; replace x7 := cell_later x7 hb2'
  replace y0 := cell_later y0 hb2'; replace y1 := cell_later y1 hb2'; replace y2 := cell_later y2 hb2'; replace y3 := cell_later y3 hb2'; replace y4 := cell_later y4 hb2'; replace y5 := cell_later y5 hb2'; replace y6 := cell_later y6 hb2'; replace y7 := cell_later y7 hb2'
  replace m0 := cell_later m0 hb2'; replace m1 := cell_later m1 hb2'; replace m2 := cell_later m2 hb2'; replace m3 := cell_later m3 hb2'
  replace HX1 := Lib.hid (HX1.out.later hb2'); replace HY1 := Lib.hid (HY1.out.later hb2'); replace HB1 := Lib.hid (below_step HB1.out hb2')
  have hlx := HX1.out.lt; have hly := HY1.out.lt
  clear hb2' HAL HR3
  have hal : Below w3.heap.size w3 (w3.alloc (.cells (put1.cells ++ get2.cells).toArray 36)) := (Below.refl _ _).alloc (Nat.le_refl _) _
  have HR4 : Hid (RRes (w3.alloc (.cells (put1.cells ++ get2.cells).toArray 36)) (some ⟨w3.heap.size, 0, none⟩) 2 2 [put1, get2]) := Rws.two (Blk.new' rfl)
  have HAL := Lib.hid hal; clear hal
  have q1 : ((⟨#[107]⟩ : ByteArray).toList == (⟨#[107]⟩ : ByteArray).toList) = true := by simp
  have q2 : ((⟨#[118]⟩ : ByteArray).toList == (⟨#[118]⟩ : ByteArray).toList) = true := by simp
  go_wp2_with fail
  refine (keys13 [put1, get2] _ _ 2 2 HR4.out (by simp)).mono ?_
  rintro r w4 ⟨⟨ok, ck, rfl, -⟩, hb4⟩
  rw [ex_keys]
  have hb5 := below_step HB1.out (below_step HAL.out hb4)
  have HB5 := Lib.hid hb5
  clear hb4 hb5
  go_wp2
  refine bodyPost_ret (v := .bool true) (by simp [results, Try.results15, go_sem]) rfl ⟨rfl, HB5.out⟩

theorem judgeTells3 (l : List Res) (w : World) (oa : Option Addr) (n c : Nat) (h : RRes w oa n c l) :
    Calls Try.prog 3 #[.slice oa n c] w fun r w' => r = .returned (.bool true) ∧ Below w.heap.size w w' := by
  obtain rfl : n = l.length := h.rows.len
  have H := Lib.hid h; clear h
  go_enter Try.func3, Try.ntmps3
  go_wp2_with fail
  refine (great6 l w oa _ c H.out).mono ?_
  rintro r w1 ⟨⟨b, rfl, hbl⟩, hb⟩
  have HB := Lib.hid hb; have HBL := Lib.hid hbl; clear hb hbl
  cases b with
  | true =>
    go_wp2
    refine bodyPost_ret (v := .bool true) (by simp [results, Try.results3, go_sem]) rfl ⟨rfl, HB.out⟩
  | false =>
  have hl : l.length ≤ 900 := by have := HBL.out rfl; omega
  have HL := Lib.hid hl; clear hl
  replace H := Lib.hid (H.out.below HB.out)
  go_wp2_with fail
  refine (judge7 l w1 oa _ c H.out (by have := HL.out; omega)).mono ?_
  rintro r w2 ⟨rfl, hb⟩
  replace H := Lib.hid (H.out.below hb); replace HB := Lib.hid (below_step HB.out hb); clear hb
  go_wp2_with fail
  refine (refJudge8 l w2 oa _ c H.out HL.out).mono ?_
  rintro r w3 ⟨rfl, hb⟩
  replace H := Lib.hid (H.out.below hb); replace HB := Lib.hid (below_step HB.out hb); clear hb
  go_wp2_with fail
  refine (map10 l w3 oa _ c H.out HL.out).mono ?_
  rintro r w4 ⟨⟨o1, c1, rfl, h1⟩, hb⟩
  have H1 := Lib.hid h1; clear h1
  replace H := Lib.hid (H.out.below hb); replace HB := Lib.hid (below_step HB.out hb); clear hb
  go_wp2_with fail
  refine (refMap11 l w4 oa _ c H.out HL.out).mono ?_
  rintro r w5 ⟨⟨o2, c2, rfl, h2⟩, hb⟩
  have H2 := Lib.hid h2; clear h2
  replace H := Lib.hid (H.out.below hb); replace H1 := Lib.hid (H1.out.below hb); replace HB := Lib.hid (below_step HB.out hb); clear hb
  go_wp2_with fail
  refine (items9 (mapD l) (mapD l) w5 o1 o2 _ _ c1 c2 H1.out H2.out).mono ?_
  rintro r w6 ⟨rfl, hb⟩
  rw [decide_eq_true rfl]
  replace H := Lib.hid (H.out.below hb); replace HB := Lib.hid (below_step HB.out hb); clear hb H1 H2
  go_wp2_with fail
  refine (keys13 l w6 oa _ c H.out (by have := HL.out; omega)).mono ?_
  rintro r w7 ⟨⟨o1, c1, rfl, h1⟩, hb⟩
  have H1 := Lib.hid h1; clear h1
  replace H := Lib.hid (H.out.below hb); replace HB := Lib.hid (below_step HB.out hb); clear hb
  go_wp2_with fail
  refine (refKeys14 l w7 oa _ c H.out HL.out).mono ?_
  rintro r w8 ⟨⟨o2, c2, rfl, h2⟩, hb⟩
  have H2 := Lib.hid h2; clear h2
  replace H := Lib.hid (H.out.below hb); replace H1 := Lib.hid (H1.out.below hb); replace HB := Lib.hid (below_step HB.out hb); clear hb
  go_wp2_with fail
  refine (same12 (keysOf l) (keysOf l) w8 o1 o2 _ _ c1 c2 H1.out H2.out).mono ?_
  rintro r w9 ⟨rfl, hb⟩
  rw [decide_eq_true rfl]
  replace HB := Lib.hid (below_step HB.out hb); clear hb H1 H2 H
  go_wp2_with fail
  refine (works15 w9).mono ?_
  rintro r w10 ⟨rfl, hb⟩
  replace HB := Lib.hid (below_step HB.out hb); clear hb
  go_wp2
  refine bodyPost_ret (v := .bool true) (by simp [results, Try.results3, go_sem]) rfl ⟨rfl, HB.out⟩
end Go.Proofs.Ytnfkjicoielpnaa
