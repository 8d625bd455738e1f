/-
  Requests that are alike.
-/
import Derived.Test.YtmbakknpnilooaaWc
namespace Go.Proofs.Ytmbakknpnilooaa
open Go.RowKit Go.Proofs.Ytmbakknpnilooaa.Plan Go.Proofs.Ytmbakknpnilooaa.Eager
set_option maxHeartbeats 4000000
set_option maxRecDepth 20000
set_option linter.unusedVariables false
set_option linter.unusedSimpArgs false

theorem one32 (a b : Pd) (w : World) (ha : a.m.Good w) (hb : b.m.Good w) :
    Calls Try.prog 32 #[.agg a.cells.toArray, .agg b.cells.toArray] w fun r w' => r = .returned (.bool (decide (a.c = b.c))) ∧ Below w.heap.size w w' := by
  have hal : Below w.heap.size w ((w.alloc (.cells a.cells.toArray 32)).alloc (.cells b.cells.toArray 32)) := by (with_reducible try refine Lib.hid ?_); (repeat (with_reducible first | assumption | exact Below.refl _ _ | apply Below.drew | apply Below.drewN' | apply Below.setCell | apply Below.alloc)) <;> (try simp [length_fillTo, length_turnTo]) <;> (try omega)
  have hX : Blk ((w.alloc (.cells a.cells.toArray 32)).alloc (.cells b.cells.toArray 32)) w.heap.size a.cells := Blk.alloc (Blk.new' rfl) _
  have hY : Blk ((w.alloc (.cells a.cells.toArray 32)).alloc (.cells b.cells.toArray 32)) (w.heap.size + 1) b.cells := by
    have := Blk.new' (w := w.alloc (.cells a.cells.toArray 32)) (cs := b.cells) (e := 32) rfl
    simpa using this
  have HGA := Lib.hid (ha.below hal); have HGB := Lib.hid (hb.below hal)
  have HB := Lib.hid hal; have HX := Lib.hid hX; have HY := Lib.hid hY
  obtain ⟨a0, a1, a2, a3, a4, a5, ae, am⟩ := a
  obtain ⟨b0, b1, b2, b3, b4, b5, be, bm⟩ := b
  simp only at HGA HGB
  have x0 : ((w.alloc (.cells (Pd.cells ⟨a0, a1, a2, a3, a4, a5, ae, am⟩).toArray 32)).alloc (.cells (Pd.cells ⟨b0, b1, b2, b3, b4, b5, be, bm⟩).toArray 32)).cell? ⟨w.heap.size, 0, none⟩ = some (.int .i64 a0) := pd_at hX 0 (by omega)
  have x1 : ((w.alloc (.cells (Pd.cells ⟨a0, a1, a2, a3, a4, a5, ae, am⟩).toArray 32)).alloc (.cells (Pd.cells ⟨b0, b1, b2, b3, b4, b5, be, bm⟩).toArray 32)).cell? ⟨w.heap.size, 1, none⟩ = some (.int .i64 a1) := pd_at hX 1 (by omega)
  have x2 : ((w.alloc (.cells (Pd.cells ⟨a0, a1, a2, a3, a4, a5, ae, am⟩).toArray 32)).alloc (.cells (Pd.cells ⟨b0, b1, b2, b3, b4, b5, be, bm⟩).toArray 32)).cell? ⟨w.heap.size, 2, none⟩ = some (.int .i64 a2) := pd_at hX 2 (by omega)
  have x3 : ((w.alloc (.cells (Pd.cells ⟨a0, a1, a2, a3, a4, a5, ae, am⟩).toArray 32)).alloc (.cells (Pd.cells ⟨b0, b1, b2, b3, b4, b5, be, bm⟩).toArray 32)).cell? ⟨w.heap.size, 3, none⟩ = some (.int .i64 a3) := pd_at hX 3 (by omega)
  have x4 : ((w.alloc (.cells (Pd.cells ⟨a0, a1, a2, a3, a4, a5, ae, am⟩).toArray 32)).alloc (.cells (Pd.cells ⟨b0, b1, b2, b3, b4, b5, be, bm⟩).toArray 32)).cell? ⟨w.heap.size, 4, none⟩ = some (.int .i64 a4) := pd_at hX 4 (by omega)
  have x5 : ((w.alloc (.cells (Pd.cells ⟨a0, a1, a2, a3, a4, a5, ae, am⟩).toArray 32)).alloc (.cells (Pd.cells ⟨b0, b1, b2, b3, b4, b5, be, bm⟩).toArray 32)).cell? ⟨w.heap.size, 5, none⟩ = some (.int .u64 a5) := pd_at hX 5 (by omega)
  have y0 : ((w.alloc (.cells (Pd.cells ⟨a0, a1, a2, a3, a4, a5, ae, am⟩).toArray 32)).alloc (.cells (Pd.cells ⟨b0, b1, b2, b3, b4, b5, be, bm⟩).toArray 32)).cell? ⟨w.heap.size + 1, 0, none⟩ = some (.int .i64 b0) := pd_at hY 0 (by omega)
  have y1 : ((w.alloc (.cells (Pd.cells ⟨a0, a1, a2, a3, a4, a5, ae, am⟩).toArray 32)).alloc (.cells (Pd.cells ⟨b0, b1, b2, b3, b4, b5, be, bm⟩).toArray 32)).cell? ⟨w.heap.size + 1, 1, none⟩ = some (.int .i64 b1) := pd_at hY 1 (by omega)
  have y2 : ((w.alloc (.cells (Pd.cells ⟨a0, a1, a2, a3, a4, a5, ae, am⟩).toArray 32)).alloc (.cells (Pd.cells ⟨b0, b1, b2, b3, b4, b5, be, bm⟩).toArray 32)).cell? ⟨w.heap.size + 1, 2, none⟩ = some (.int .i64 b2) := pd_at hY 2 (by omega)
  have y3 : ((w.alloc (.cells (Pd.cells ⟨a0, a1, a2, a3, a4, a5, ae, am⟩).toArray 32)).alloc (.cells (Pd.cells ⟨b0, b1, b2, b3, b4, b5, be, bm⟩).toArray 32)).cell? ⟨w.heap.size + 1, 3, none⟩ = some (.int .i64 b3) := pd_at hY 3 (by omega)
  have y4 : ((w.alloc (.cells (Pd.cells ⟨a0, a1, a2, a3, a4, a5, ae, am⟩).toArray 32)).alloc (.cells (Pd.cells ⟨b0, b1, b2, b3, b4, b5, be, bm⟩).toArray 32)).cell? ⟨w.heap.size + 1, 4, none⟩ = some (.int .i64 b4) := pd_at hY 4 (by omega)
  have y5 : ((w.alloc (.cells (Pd.cells ⟨a0, a1, a2, a3, a4, a5, ae, am⟩).toArray 32)).alloc (.cells (Pd.cells ⟨b0, b1, b2, b3, b4, b5, be, bm⟩).toArray 32)).cell? ⟨w.heap.size + 1, 5, none⟩ = some (.int .u64 b5) := pd_at hY 5 (by omega)
  have hxl := hX.lt
  have hyl := hY.lt
  clear hX hY hal ha hb
  by_cases h0 : a0 = b0
  rotate_left
  · have HN : Hid (¬ Pd.c ⟨a0, a1, a2, a3, a4, a5, ae, am⟩ = Pd.c ⟨b0, b1, b2, b3, b4, b5, be, bm⟩) := by show ¬ _; simp [Pd.c, h0]
    clear HX HY HGA HGB
    go_enter Try.func32, Try.ntmps32
    go_wp2
    refine bodyPost_ret (v := .bool false) (by simp [results, Try.results32, go_sem]) rfl ⟨by rw [decide_eq_false HN.out], HB.out⟩
  subst h0
  by_cases h1 : a1 = b1
  rotate_left
  · have HN : Hid (¬ Pd.c ⟨a0, a1, a2, a3, a4, a5, ae, am⟩ = Pd.c ⟨a0, b1, b2, b3, b4, b5, be, bm⟩) := by show ¬ _; simp [Pd.c, h1]
    clear HX HY HGA HGB
    go_enter Try.func32, Try.ntmps32
    go_wp2
    refine bodyPost_ret (v := .bool false) (by simp [results, Try.results32, go_sem]) rfl ⟨by rw [decide_eq_false HN.out], HB.out⟩
  subst h1
  by_cases h2 : a2 = b2
  rotate_left
  · have HN : Hid (¬ Pd.c ⟨a0, a1, a2, a3, a4, a5, ae, am⟩ = Pd.c ⟨a0, a1, b2, b3, b4, b5, be, bm⟩) := by show ¬ _; simp [Pd.c, h2]
    clear HX HY HGA HGB
    go_enter Try.func32, Try.ntmps32
    go_wp2
    refine bodyPost_ret (v := .bool false) (by simp [results, Try.results32, go_sem]) rfl ⟨by rw [decide_eq_false HN.out], HB.out⟩
  subst h2
  by_cases h3 : a3 = b3
  rotate_left
  · have HN : Hid (¬ Pd.c ⟨a0, a1, a2, a3, a4, a5, ae, am⟩ = Pd.c ⟨a0, a1, a2, b3, b4, b5, be, bm⟩) := by show ¬ _; simp [Pd.c, h3]
    clear HX HY HGA HGB
    go_enter Try.func32, Try.ntmps32
    go_wp2
    refine bodyPost_ret (v := .bool false) (by simp [results, Try.results32, go_sem]) rfl ⟨by rw [decide_eq_false HN.out], HB.out⟩
  subst h3
  by_cases h4 : a4 = b4
  rotate_left
  · have HN : Hid (¬ Pd.c ⟨a0, a1, a2, a3, a4, a5, ae, am⟩ = Pd.c ⟨a0, a1, a2, a3, b4, b5, be, bm⟩) := by show ¬ _; simp [Pd.c, h4]
    clear HX HY HGA HGB
    go_enter Try.func32, Try.ntmps32
    go_wp2
    refine bodyPost_ret (v := .bool false) (by simp [results, Try.results32, go_sem]) rfl ⟨by rw [decide_eq_false HN.out], HB.out⟩
  subst h4
  by_cases h5 : a5 = b5
  rotate_left
  · have HN : Hid (¬ Pd.c ⟨a0, a1, a2, a3, a4, a5, ae, am⟩ = Pd.c ⟨a0, a1, a2, a3, a4, b5, be, bm⟩) := by show ¬ _; simp [Pd.c, h5]
    have h5i : ¬ (a5 : Int) = (b5 : Int) := by omega
    clear HX HY HGA HGB
    go_enter Try.func32, Try.ntmps32
    go_wp2
    refine bodyPost_ret (v := .bool false) (by simp [results, Try.results32, go_sem]) rfl ⟨by rw [decide_eq_false HN.out], HB.out⟩
  subst h5
  have HV : Hid (Pd.c ⟨a0, a1, a2, a3, a4, a5, ae, am⟩ = Pd.c ⟨a0, a1, a2, a3, a4, a5, be, bm⟩ ↔ (ae = be ∧ am.c = bm.c)) := by show _ ↔ _; simp [Pd.c]
  have hg : ∀ x y W, (eqGuard .eql 25 x y (.agg ae.cells.toArray) (.agg be.cells.toArray)).run Try.prog W = .ok () W := fun x y W => guard25 _ _ _ _ _ _
  have hq : ∀ W, (binOp .eql 25 (.agg ae.cells.toArray) (.agg be.cells.toArray)).run Try.prog W = .ok (.bool (decide (ae = be))) W := fun W => eql25 ae be W
  go_enter Try.func32, Try.ntmps32
  go_wp2_with (refine stop_load (ty := 25) rfl ?_)
  refine ⟨wpList_load_at_w (by rfl) rfl HX.out.at_.to (by rfl) row25 ?_⟩
  go_wp2_with (refine stop_load (ty := 25) rfl ?_)
  refine ⟨wpList_load_at_w (by rfl) rfl HY.out.at_.to (by rfl) row25 ?_⟩
  by_cases he : ae = be
  rotate_left
  · have HN : Hid (¬ Pd.c ⟨a0, a1, a2, a3, a4, a5, ae, am⟩ = Pd.c ⟨a0, a1, a2, a3, a4, a5, be, bm⟩) := by
      show ¬ _
      rw [HV.out]; simp [he]
    simp only [decide_eq_false he] at hq
    clear he
    go_wp2
    refine bodyPost_ret (v := .bool false) (by simp [results, Try.results32, go_sem]) rfl ⟨by rw [decide_eq_false HN.out], HB.out⟩
  have HV2 : Hid ((am.c = bm.c) ↔ Pd.c ⟨a0, a1, a2, a3, a4, a5, ae, am⟩ = Pd.c ⟨a0, a1, a2, a3, a4, a5, be, bm⟩) := by show _ ↔ _; rw [HV.out]; simp [he]
  clear HV
  simp only [decide_eq_true he] at hq
  clear he
  go_wp2_with (refine stop_load (ty := 30) rfl ?_)
  refine ⟨wpList_load_at_w (by rfl) rfl HX.out.at_.mg (by rfl) row30 ?_⟩
  go_wp2_with (refine stop_load (ty := 30) rfl ?_)
  refine ⟨wpList_load_at_w (by rfl) rfl HY.out.at_.mg (by rfl) row30 ?_⟩
  go_wp2_with fail
  refine (refMsg48 am bm _ HGA.out HGB.out).mono ?_
  rintro r w1 ⟨rfl, hb⟩
  have HB1 := Lib.hid (below_step HB.out hb)
  clear hb HB hg hq x0 x1 x2 x3 x4 x5 y0 y1 y2 y3 y4 y5 HX HY HGA HGB
  go_wp2
  refine bodyPost_ret (v := .bool (decide (am.c = bm.c))) (by simp [results, Try.results32, go_sem]) rfl ⟨congrArg (fun b => Ending.returned (.bool b)) (decide_eq_decide.2 HV2.out), HB1.out⟩

theorem same35 (a b : Pd) (w : World) (ha : a.m.Good w) (hb : b.m.Good w) :
    Calls Try.prog 35 #[.agg a.cells.toArray, .agg b.cells.toArray] w fun r w' => r = .returned (.bool (decide (a.c = b.c))) ∧ Below w.heap.size w w' := by
  have hal : Below w.heap.size w ((w.alloc (.cells a.cells.toArray 32)).alloc (.cells b.cells.toArray 32)) := by (with_reducible try refine Lib.hid ?_); (repeat (with_reducible first | assumption | exact Below.refl _ _ | apply Below.drew | apply Below.drewN' | apply Below.setCell | apply Below.alloc)) <;> (try simp [length_fillTo, length_turnTo]) <;> (try omega)
  have hX : Blk ((w.alloc (.cells a.cells.toArray 32)).alloc (.cells b.cells.toArray 32)) w.heap.size a.cells := Blk.alloc (Blk.new' rfl) _
  have hY : Blk ((w.alloc (.cells a.cells.toArray 32)).alloc (.cells b.cells.toArray 32)) (w.heap.size + 1) b.cells := by
    have := Blk.new' (w := w.alloc (.cells a.cells.toArray 32)) (cs := b.cells) (e := 32) rfl
    simpa using this
  have HGA := Lib.hid (ha.below hal); have HGB := Lib.hid (hb.below hal)
  have HB := Lib.hid hal; have HX := Lib.hid hX; have HY := Lib.hid hY
  obtain ⟨a0, a1, a2, a3, a4, a5, ae, am⟩ := a
  obtain ⟨b0, b1, b2, b3, b4, b5, be, bm⟩ := b
  simp only at HGA HGB
  have x0 : ((w.alloc (.cells (Pd.cells ⟨a0, a1, a2, a3, a4, a5, ae, am⟩).toArray 32)).alloc (.cells (Pd.cells ⟨b0, b1, b2, b3, b4, b5, be, bm⟩).toArray 32)).cell? ⟨w.heap.size, 0, none⟩ = some (.int .i64 a0) := pd_at hX 0 (by omega)
  have x1 : ((w.alloc (.cells (Pd.cells ⟨a0, a1, a2, a3, a4, a5, ae, am⟩).toArray 32)).alloc (.cells (Pd.cells ⟨b0, b1, b2, b3, b4, b5, be, bm⟩).toArray 32)).cell? ⟨w.heap.size, 1, none⟩ = some (.int .i64 a1) := pd_at hX 1 (by omega)
  have x2 : ((w.alloc (.cells (Pd.cells ⟨a0, a1, a2, a3, a4, a5, ae, am⟩).toArray 32)).alloc (.cells (Pd.cells ⟨b0, b1, b2, b3, b4, b5, be, bm⟩).toArray 32)).cell? ⟨w.heap.size, 2, none⟩ = some (.int .i64 a2) := pd_at hX 2 (by omega)
  have x3 : ((w.alloc (.cells (Pd.cells ⟨a0, a1, a2, a3, a4, a5, ae, am⟩).toArray 32)).alloc (.cells (Pd.cells ⟨b0, b1, b2, b3, b4, b5, be, bm⟩).toArray 32)).cell? ⟨w.heap.size, 3, none⟩ = some (.int .i64 a3) := pd_at hX 3 (by omega)
  have x4 : ((w.alloc (.cells (Pd.cells ⟨a0, a1, a2, a3, a4, a5, ae, am⟩).toArray 32)).alloc (.cells (Pd.cells ⟨b0, b1, b2, b3, b4, b5, be, bm⟩).toArray 32)).cell? ⟨w.heap.size, 4, none⟩ = some (.int .i64 a4) := pd_at hX 4 (by omega)
  have x5 : ((w.alloc (.cells (Pd.cells ⟨a0, a1, a2, a3, a4, a5, ae, am⟩).toArray 32)).alloc (.cells (Pd.cells ⟨b0, b1, b2, b3, b4, b5, be, bm⟩).toArray 32)).cell? ⟨w.heap.size, 5, none⟩ = some (.int .u64 a5) := pd_at hX 5 (by omega)
  have y0 : ((w.alloc (.cells (Pd.cells ⟨a0, a1, a2, a3, a4, a5, ae, am⟩).toArray 32)).alloc (.cells (Pd.cells ⟨b0, b1, b2, b3, b4, b5, be, bm⟩).toArray 32)).cell? ⟨w.heap.size + 1, 0, none⟩ = some (.int .i64 b0) := pd_at hY 0 (by omega)
  have y1 : ((w.alloc (.cells (Pd.cells ⟨a0, a1, a2, a3, a4, a5, ae, am⟩).toArray 32)).alloc (.cells (Pd.cells ⟨b0, b1, b2, b3, b4, b5, be, bm⟩).toArray 32)).cell? ⟨w.heap.size + 1, 1, none⟩ = some (.int .i64 b1) := pd_at hY 1 (by omega)
  have y2 : ((w.alloc (.cells (Pd.cells ⟨a0, a1, a2, a3, a4, a5, ae, am⟩).toArray 32)).alloc (.cells (Pd.cells ⟨b0, b1, b2, b3, b4, b5, be, bm⟩).toArray 32)).cell? ⟨w.heap.size + 1, 2, none⟩ = some (.int .i64 b2) := pd_at hY 2 (by omega)
  have y3 : ((w.alloc (.cells (Pd.cells ⟨a0, a1, a2, a3, a4, a5, ae, am⟩).toArray 32)).alloc (.cells (Pd.cells ⟨b0, b1, b2, b3, b4, b5, be, bm⟩).toArray 32)).cell? ⟨w.heap.size + 1, 3, none⟩ = some (.int .i64 b3) := pd_at hY 3 (by omega)
  have y4 : ((w.alloc (.cells (Pd.cells ⟨a0, a1, a2, a3, a4, a5, ae, am⟩).toArray 32)).alloc (.cells (Pd.cells ⟨b0, b1, b2, b3, b4, b5, be, bm⟩).toArray 32)).cell? ⟨w.heap.size + 1, 4, none⟩ = some (.int .i64 b4) := pd_at hY 4 (by omega)
  have y5 : ((w.alloc (.cells (Pd.cells ⟨a0, a1, a2, a3, a4, a5, ae, am⟩).toArray 32)).alloc (.cells (Pd.cells ⟨b0, b1, b2, b3, b4, b5, be, bm⟩).toArray 32)).cell? ⟨w.heap.size + 1, 5, none⟩ = some (.int .u64 b5) := pd_at hY 5 (by omega)
  have hxl := hX.lt
  have hyl := hY.lt
  clear hX hY hal ha hb
  by_cases h0 : a0 = b0
  rotate_left
  · have HN : Hid (¬ Pd.c ⟨a0, a1, a2, a3, a4, a5, ae, am⟩ = Pd.c ⟨b0, b1, b2, b3, b4, b5, be, bm⟩) := by show ¬ _; simp [Pd.c, h0]
    clear HX HY HGA HGB
    go_enter Try.func35, Try.ntmps35
    go_wp2
    refine bodyPost_ret (v := .bool false) (by simp [results, Try.results35, go_sem]) rfl ⟨by rw [decide_eq_false HN.out], HB.out⟩
  subst h0
  by_cases h1 : a1 = b1
  rotate_left
  · have HN : Hid (¬ Pd.c ⟨a0, a1, a2, a3, a4, a5, ae, am⟩ = Pd.c ⟨a0, b1, b2, b3, b4, b5, be, bm⟩) := by show ¬ _; simp [Pd.c, h1]
    clear HX HY HGA HGB
    go_enter Try.func35, Try.ntmps35
    go_wp2
    refine bodyPost_ret (v := .bool false) (by simp [results, Try.results35, go_sem]) rfl ⟨by rw [decide_eq_false HN.out], HB.out⟩
  subst h1
  by_cases h2 : a2 = b2
  rotate_left
  · have HN : Hid (¬ Pd.c ⟨a0, a1, a2, a3, a4, a5, ae, am⟩ = Pd.c ⟨a0, a1, b2, b3, b4, b5, be, bm⟩) := by show ¬ _; simp [Pd.c, h2]
    clear HX HY HGA HGB
    go_enter Try.func35, Try.ntmps35
    go_wp2
    refine bodyPost_ret (v := .bool false) (by simp [results, Try.results35, go_sem]) rfl ⟨by rw [decide_eq_false HN.out], HB.out⟩
  subst h2
  by_cases h3 : a3 = b3
  rotate_left
  · have HN : Hid (¬ Pd.c ⟨a0, a1, a2, a3, a4, a5, ae, am⟩ = Pd.c ⟨a0, a1, a2, b3, b4, b5, be, bm⟩) := by show ¬ _; simp [Pd.c, h3]
    clear HX HY HGA HGB
    go_enter Try.func35, Try.ntmps35
    go_wp2
    refine bodyPost_ret (v := .bool false) (by simp [results, Try.results35, go_sem]) rfl ⟨by rw [decide_eq_false HN.out], HB.out⟩
  subst h3
  by_cases h4 : a4 = b4
  rotate_left
  · have HN : Hid (¬ Pd.c ⟨a0, a1, a2, a3, a4, a5, ae, am⟩ = Pd.c ⟨a0, a1, a2, a3, b4, b5, be, bm⟩) := by show ¬ _; simp [Pd.c, h4]
    clear HX HY HGA HGB
    go_enter Try.func35, Try.ntmps35
    go_wp2
    refine bodyPost_ret (v := .bool false) (by simp [results, Try.results35, go_sem]) rfl ⟨by rw [decide_eq_false HN.out], HB.out⟩
  subst h4
  by_cases h5 : a5 = b5
  rotate_left
  · have HN : Hid (¬ Pd.c ⟨a0, a1, a2, a3, a4, a5, ae, am⟩ = Pd.c ⟨a0, a1, a2, a3, a4, b5, be, bm⟩) := by show ¬ _; simp [Pd.c, h5]
    have h5i : ¬ (a5 : Int) = (b5 : Int) := by omega
    clear HX HY HGA HGB
    go_enter Try.func35, Try.ntmps35
    go_wp2
    refine bodyPost_ret (v := .bool false) (by simp [results, Try.results35, go_sem]) rfl ⟨by rw [decide_eq_false HN.out], HB.out⟩
  subst h5
  have HV : Hid (Pd.c ⟨a0, a1, a2, a3, a4, a5, ae, am⟩ = Pd.c ⟨a0, a1, a2, a3, a4, a5, be, bm⟩ ↔ (ae = be ∧ am.c = bm.c)) := by show _ ↔ _; simp [Pd.c]
  have hg : ∀ x y W, (eqGuard .eql 25 x y (.agg ae.cells.toArray) (.agg be.cells.toArray)).run Try.prog W = .ok () W := fun x y W => guard25 _ _ _ _ _ _
  have hq : ∀ W, (binOp .eql 25 (.agg ae.cells.toArray) (.agg be.cells.toArray)).run Try.prog W = .ok (.bool (decide (ae = be))) W := fun W => eql25 ae be W
  go_enter Try.func35, Try.ntmps35
  go_wp2_with (refine stop_load (ty := 25) rfl ?_)
  refine ⟨wpList_load_at_w (by rfl) rfl HX.out.at_.to (by rfl) row25 ?_⟩
  go_wp2_with (refine stop_load (ty := 25) rfl ?_)
  refine ⟨wpList_load_at_w (by rfl) rfl HY.out.at_.to (by rfl) row25 ?_⟩
  by_cases he : ae = be
  rotate_left
  · have HN : Hid (¬ Pd.c ⟨a0, a1, a2, a3, a4, a5, ae, am⟩ = Pd.c ⟨a0, a1, a2, a3, a4, a5, be, bm⟩) := by
      show ¬ _
      rw [HV.out]; simp [he]
    simp only [decide_eq_false he] at hq
    clear he
    go_wp2
    refine bodyPost_ret (v := .bool false) (by simp [results, Try.results35, go_sem]) rfl ⟨by rw [decide_eq_false HN.out], HB.out⟩
  have HV2 : Hid ((am.c = bm.c) ↔ Pd.c ⟨a0, a1, a2, a3, a4, a5, ae, am⟩ = Pd.c ⟨a0, a1, a2, a3, a4, a5, be, bm⟩) := by show _ ↔ _; rw [HV.out]; simp [he]
  clear HV
  simp only [decide_eq_true he] at hq
  clear he
  go_wp2_with (refine stop_load (ty := 30) rfl ?_)
  refine ⟨wpList_load_at_w (by rfl) rfl HX.out.at_.mg (by rfl) row30 ?_⟩
  go_wp2_with (refine stop_load (ty := 30) rfl ?_)
  refine ⟨wpList_load_at_w (by rfl) rfl HY.out.at_.mg (by rfl) row30 ?_⟩
  go_wp2_with fail
  refine (msgSame36 am bm _ HGA.out HGB.out).mono ?_
  rintro r w1 ⟨rfl, hb⟩
  have HB1 := Lib.hid (below_step HB.out hb)
  clear hb HB hg hq x0 x1 x2 x3 x4 x5 y0 y1 y2 y3 y4 y5 HX HY HGA HGB
  go_wp2
  refine bodyPost_ret (v := .bool (decide (am.c = bm.c))) (by simp [results, Try.results35, go_sem]) rfl ⟨congrArg (fun b => Ending.returned (.bool b)) (decide_eq_decide.2 HV2.out), HB1.out⟩

def pd0 : Pd := ⟨0, 0, 0, 0, 0, 0, ⟨⟨#[]⟩, 0, 0, 0, 0, ⟨#[]⟩⟩, ⟨⟨0, 0, 0, 0, 0, false, false, ⟨#[]⟩, ⟨#[]⟩, [], []⟩, none, 0, none, 0⟩⟩
def sameD (a b : List Pd) : Bool := decide (a.map Pd.c = b.map Pd.c)
theorem same_len (a b : List Pd) (h : ¬ a.length = b.length) : sameD a b = false := decide_eq_false fun e => h (by simpa using congrArg List.length e)
theorem same_ne (a b : List Pd) {k : Nat} (h1 : k < a.length) (h2 : k < b.length) (h : decide (a[k].c = b[k].c) = false) : sameD a b = false := by
  refine decide_eq_false (list_ne (k := k) (by simpa using h1) (by simpa using h2) ?_)
  simpa using h
theorem same_go (a b : List Pd) {k : Nat} (h1 : k < a.length) (h2 : k < b.length) (h : decide (a[k].c = b[k].c) = true) (ht : (a.map Pd.c).take k = (b.map Pd.c).take k) : (a.map Pd.c).take (k + 1) = (b.map Pd.c).take (k + 1) :=
  take_eq (by simpa using h1) (by simpa using h2) (by simpa using h) ht
theorem same_end (a b : List Pd) (hl : a.length = b.length) (ht : (a.map Pd.c).take a.length = (b.map Pd.c).take a.length) : sameD a b = true := by
  refine decide_eq_true ?_
  rw [List.take_of_length_le (by simp), List.take_of_length_le (by simp; omega)] at ht
  exact ht

theorem refSame13 (a b : List Pd) (w : World) (o1 o2 : Option Addr) (n1 n2 c1 c2 : Nat) (h1 : RPd w o1 n1 c1 a) (h2 : RPd w o2 n2 c2 b) :
    Calls Try.prog 13 #[.slice o1 n1 c1, .slice o2 n2 c2] w fun r w' => r = .returned (.bool (sameD a b)) ∧ Below w.heap.size w w' := by
  obtain rfl : n1 = a.length := h1.rows.rows.len
  obtain rfl : n2 = b.length := h2.rows.rows.len
  have H1 := Lib.hid h1; have H2 := Lib.hid h2; clear h1 h2
  by_cases hlen : a.length = b.length
  · have hlen' : ((a.length : Int) != (b.length : Int)) = false := by simp; omega
    have HLEN := Lib.hid hlen
    clear hlen
    go_enter Try.func13, Try.ntmps13
    go_wp2
    clear hlen'
    go_loopw [5] (fun u wr => ∃ i : Nat, i ≤ a.length ∧ u = .int .i64 i ∧ Hid ((a.map Pd.c).take i = (b.map Pd.c).take i) ∧ Hid (Below w.heap.size w wr)) (fun u _ => a.length - (intOf u).toNat)
    case atStart => exact ⟨0, by omega, rfl, Lib.hid rfl, by (with_reducible try refine Lib.hid ?_); (repeat (with_reducible first | assumption | exact Below.refl _ _ | apply Below.drew | apply Below.drewN' | apply Below.setCell | apply Below.alloc)) <;> (try simp [length_fillTo, length_turnTo]) <;> (try omega)⟩
    case round =>
      obtain ⟨i, hk, rfl, hS, hbel⟩ := hrel
      by_cases hlt : i < a.length
      · have hlt2 : i < b.length := by have := HLEN.out; omega
        have hi1 : (i : Int) < (a.length : Int) := by omega
        have hi2 : (i : Int) < (b.length : Int) := by omega
        have rk : IntKind.i64.wrap ((i : Int) + 1) = ((i + 1 : Nat) : Int) := by
          have h1 := H1.out.rows.le; have h2 := H1.out.rows.cap
          simp only [maxLen] at h2
          rw [IntKind.wrap_i64]; omega
        have HGS := Lib.hid (H1.out.good _ (List.getElem_mem hlt)); have HGT := Lib.hid (H2.out.good _ (List.getElem_mem hlt2))
        obtain ⟨b1, p1, rfl, hA⟩ := H1.out.rows.rows.pd hlt
        obtain ⟨b2, p2, rfl, hD⟩ := H2.out.rows.rows.pd hlt2
        have HN : Hid (decide (a[i].c = b[i].c) = false → sameD a b = false) := same_ne a b hlt hlt2
        have HT : Hid (decide (a[i].c = b[i].c) = true → (a.map Pd.c).take (i + 1) = (b.map Pd.c).take (i + 1)) := fun h => same_go a b hlt hlt2 h hS.out
        obtain ⟨s, hs⟩ : ∃ q, a[i] = q := ⟨_, rfl⟩
        obtain ⟨t, ht⟩ : ∃ q, b[i] = q := ⟨_, rfl⟩
        rw [hs] at hA HN HT HGS; rw [ht] at hD HN HT HGT
        have HA := Lib.hid hA; have HD := Lib.hid hD
        clear hs ht hA hD
        obtain ⟨wA, rfl⟩ : ∃ x, x = wr := ⟨_, rfl⟩
        cases hq : decide (s.c = t.c)
        rotate_left
        · have HT3 := Lib.hid (HT.out hq)
          have HQ := Lib.hid hq
          clear HT HN hq
          go_wp2
          refine wp_region_plan none [] [] (.take 0 (.take 1 (.take 2 (.take 3 (.take 4 (.take 5 (.take 6 (.take 7 (.one 8 (.take 9 .done)))))))))) (by kernel_rfl) (by kernel_rfl) (fun _ _ dd _ _ h => by cases dd <;> exact h) ?_
          intro W0 hW0
          have hbW : Below w.heap.size w W0 := by rw [hW0]; exact hbel.out.drew
          have hab : Below wA.heap.size wA W0 := by rw [hW0]; exact below_drew wA
          have f0 := HA.out.later (below_step hbel.out (below_drew wA))
          have g0 := HD.out.later (below_step hbel.out (below_drew wA))
          have gs := HGS.out.below (below_step hbel.out (below_drew wA))
          have gt := HGT.out.below (below_step hbel.out (below_drew wA))
          rw [← hW0] at f0 g0 gs gt
          clear hW0
          (refine pl_take (d := 17) (v := ?_) rfl rfl rfl ?_ ?_; rotate_left; (focus ((intro w' hb0 hw'; go_simp) <;> with_reducible rfl)); simp only [Act.put, List.setIfInBounds_toArray, List.set_cons_zero, List.set_cons_succ])
          (refine pl_take (d := 18) (v := ?_) rfl rfl rfl ?_ ?_; rotate_left; (focus ((intro w' hb0 hw'; go_simp) <;> with_reducible rfl)); simp only [Act.put, List.setIfInBounds_toArray, List.set_cons_zero, List.set_cons_succ])
          (refine pl_take (d := 19) (v := ?_) rfl rfl rfl ?_ ?_; rotate_left; (focus ((intro w' hb0 hw'; go_simp) <;> with_reducible rfl)); simp only [Act.put, List.setIfInBounds_toArray, List.set_cons_zero, List.set_cons_succ])
          refine pl_take (d := 20) (v := .agg s.cells.toArray) rfl rfl rfl ?_ ?_
          · intro w' hb0 hw'
            exact run_load_at rfl (f0.later hw') (by rfl) row32
          simp only [Act.put, List.setIfInBounds_toArray, List.set_cons_zero, List.set_cons_succ]
          (refine pl_take (d := 21) (v := ?_) rfl rfl rfl ?_ ?_; rotate_left; (focus ((intro w' hb0 hw'; go_simp) <;> with_reducible rfl)); simp only [Act.put, List.setIfInBounds_toArray, List.set_cons_zero, List.set_cons_succ])
          (refine pl_take (d := 22) (v := ?_) rfl rfl rfl ?_ ?_; rotate_left; (focus ((intro w' hb0 hw'; go_simp) <;> with_reducible rfl)); simp only [Act.put, List.setIfInBounds_toArray, List.set_cons_zero, List.set_cons_succ])
          (refine pl_take (d := 23) (v := ?_) rfl rfl rfl ?_ ?_; rotate_left; (focus ((intro w' hb0 hw'; go_simp) <;> with_reducible rfl)); simp only [Act.put, List.setIfInBounds_toArray, List.set_cons_zero, List.set_cons_succ])
          refine pl_take (d := 24) (v := .agg t.cells.toArray) rfl rfl rfl ?_ ?_
          · intro w' hb0 hw'
            exact run_load_at rfl (g0.later hw') (by rfl) row32
          simp only [Act.put, List.setIfInBounds_toArray, List.set_cons_zero, List.set_cons_succ]
          refine pl_one rfl rfl (fun K hK => ?_)
          go_simp
          refine (one32 s t W0 gs gt).mono ?_
          rintro r W1 ⟨rfl, hbk⟩
          rw [HQ.out]
          refine hK _ _ (hbk : Rel none W0 W1) ?_
          clear hK
          replace hbW := below_step hbW hbk
          clear hbk f0 g0 gs gt hab
          (refine pl_take (d := 26) (v := ?_) rfl rfl rfl ?_ ?_; rotate_left; (focus ((intro w' hb0 hw'; go_simp) <;> with_reducible rfl)); simp only [Act.put, List.setIfInBounds_toArray, List.set_cons_zero, List.set_cons_succ])
          refine pl_end ?_
          go_wp2_with fail
          go_roundw
          case measure => (simp [intOf]) <;> omega
          case rel => exact ⟨i + 1, by omega, rfl, HT3, Lib.hid hbW⟩
        · have HN3 := Lib.hid (HN.out hq)
          have HQ := Lib.hid hq
          clear HN HT hq
          go_wp2
          refine wp_region_plan none [] [] (.take 0 (.take 1 (.take 2 (.take 3 (.take 4 (.take 5 (.take 6 (.take 7 (.one 8 (.take 9 .done)))))))))) (by kernel_rfl) (by kernel_rfl) (fun _ _ dd _ _ h => by cases dd <;> exact h) ?_
          intro W0 hW0
          have hbW : Below w.heap.size w W0 := by rw [hW0]; exact hbel.out.drew
          have hab : Below wA.heap.size wA W0 := by rw [hW0]; exact below_drew wA
          have f0 := HA.out.later (below_step hbel.out (below_drew wA))
          have g0 := HD.out.later (below_step hbel.out (below_drew wA))
          have gs := HGS.out.below (below_step hbel.out (below_drew wA))
          have gt := HGT.out.below (below_step hbel.out (below_drew wA))
          rw [← hW0] at f0 g0 gs gt
          clear hW0
          (refine pl_take (d := 17) (v := ?_) rfl rfl rfl ?_ ?_; rotate_left; (focus ((intro w' hb0 hw'; go_simp) <;> with_reducible rfl)); simp only [Act.put, List.setIfInBounds_toArray, List.set_cons_zero, List.set_cons_succ])
          (refine pl_take (d := 18) (v := ?_) rfl rfl rfl ?_ ?_; rotate_left; (focus ((intro w' hb0 hw'; go_simp) <;> with_reducible rfl)); simp only [Act.put, List.setIfInBounds_toArray, List.set_cons_zero, List.set_cons_succ])
          (refine pl_take (d := 19) (v := ?_) rfl rfl rfl ?_ ?_; rotate_left; (focus ((intro w' hb0 hw'; go_simp) <;> with_reducible rfl)); simp only [Act.put, List.setIfInBounds_toArray, List.set_cons_zero, List.set_cons_succ])
          refine pl_take (d := 20) (v := .agg s.cells.toArray) rfl rfl rfl ?_ ?_
          · intro w' hb0 hw'
            exact run_load_at rfl (f0.later hw') (by rfl) row32
          simp only [Act.put, List.setIfInBounds_toArray, List.set_cons_zero, List.set_cons_succ]
          (refine pl_take (d := 21) (v := ?_) rfl rfl rfl ?_ ?_; rotate_left; (focus ((intro w' hb0 hw'; go_simp) <;> with_reducible rfl)); simp only [Act.put, List.setIfInBounds_toArray, List.set_cons_zero, List.set_cons_succ])
          (refine pl_take (d := 22) (v := ?_) rfl rfl rfl ?_ ?_; rotate_left; (focus ((intro w' hb0 hw'; go_simp) <;> with_reducible rfl)); simp only [Act.put, List.setIfInBounds_toArray, List.set_cons_zero, List.set_cons_succ])
          (refine pl_take (d := 23) (v := ?_) rfl rfl rfl ?_ ?_; rotate_left; (focus ((intro w' hb0 hw'; go_simp) <;> with_reducible rfl)); simp only [Act.put, List.setIfInBounds_toArray, List.set_cons_zero, List.set_cons_succ])
          refine pl_take (d := 24) (v := .agg t.cells.toArray) rfl rfl rfl ?_ ?_
          · intro w' hb0 hw'
            exact run_load_at rfl (g0.later hw') (by rfl) row32
          simp only [Act.put, List.setIfInBounds_toArray, List.set_cons_zero, List.set_cons_succ]
          refine pl_one rfl rfl (fun K hK => ?_)
          go_simp
          refine (one32 s t W0 gs gt).mono ?_
          rintro r W1 ⟨rfl, hbk⟩
          rw [HQ.out]
          refine hK _ _ (hbk : Rel none W0 W1) ?_
          clear hK
          replace hbW := below_step hbW hbk
          clear hbk f0 g0 gs gt hab
          (refine pl_take (d := 26) (v := ?_) rfl rfl rfl ?_ ?_; rotate_left; (focus ((intro w' hb0 hw'; go_simp) <;> with_reducible rfl)); simp only [Act.put, List.setIfInBounds_toArray, List.set_cons_zero, List.set_cons_succ])
          refine pl_end ?_
          go_wp2
          refine bodyPost_ret (v := .bool false) (by simp [results, Try.results13, go_sem]) rfl ⟨by rw [HN3.out], hbW⟩
      · obtain rfl : i = a.length := by omega
        have HT : Hid (sameD a b = true) := same_end a b HLEN.out hS.out
        have hb1 := hbel.out
        clear hS hbel
        go_wp2
        refine bodyPost_ret (v := .bool true) (by simp [results, Try.results13, go_sem]) rfl ⟨by rw [HT.out], hb1⟩
  · have hlen' : ¬ (a.length : Int) = (b.length : Int) := by omega
    have HN : Hid (sameD a b = false) := same_len a b hlen
    clear hlen
    go_enter Try.func13, Try.ntmps13
    go_wp2
    refine bodyPost_ret (v := .bool false) (by simp [results, Try.results13, go_sem]) rfl ⟨by rw [HN.out], Below.refl _ _⟩

theorem eg35 : ∀ args w, (callFunc 35 args).run Try.prog w = .ok (.enter 35 args) w := fun args w => by simp
theorem equalFunc34 (g : FuncId) (eg : ∀ args w, (callFunc g args).run Try.prog w = .ok (.enter g args) w)
    (hf : ∀ (s t : Pd) (W : World), s.m.Good W → t.m.Good W → Calls Try.prog g #[.agg s.cells.toArray, .agg t.cells.toArray] W fun r W' => r = .returned (.bool (decide (s.c = t.c))) ∧ Below W.heap.size W W')
    (a b : List Pd) (w : World) (o1 o2 : Option Addr) (n1 n2 c1 c2 : Nat) (h1 : RPd w o1 n1 c1 a) (h2 : RPd w o2 n2 c2 b) :
    Calls Try.prog 34 #[.slice o1 n1 c1, .slice o2 n2 c2, .func (.func g) #[] #[]] w fun r w' => r = .returned (.bool (sameD a b)) ∧ Below w.heap.size w w' := by
  obtain rfl : n1 = a.length := h1.rows.rows.len
  obtain rfl : n2 = b.length := h2.rows.rows.len
  have H1 := Lib.hid h1; have H2 := Lib.hid h2; have HF := Lib.hid hf; clear h1 h2 hf
  by_cases hlen : a.length = b.length
  · have hlen' : ((a.length : Int) != (b.length : Int)) = false := by simp; omega
    have HLEN := Lib.hid hlen
    clear hlen
    go_enter Try.func34, Try.ntmps34
    go_wp2
    clear hlen'
    go_loopw [7, 8, 9, 17] (fun _ _ _ u wr => ∃ i : Nat, i ≤ a.length ∧ u = .int .i64 i ∧ Hid ((a.map Pd.c).take i = (b.map Pd.c).take i) ∧ Hid (Below w.heap.size w wr)) (fun _ _ _ u _ => a.length - (intOf u).toNat)
    case atStart => exact ⟨0, by omega, rfl, Lib.hid rfl, by (with_reducible try refine Lib.hid ?_); (repeat (with_reducible first | assumption | exact Below.refl _ _ | apply Below.drew | apply Below.drewN' | apply Below.setCell | apply Below.alloc)) <;> (try simp [length_fillTo, length_turnTo]) <;> (try omega)⟩
    case round =>
      obtain ⟨i, hk, rfl, hS, hbel⟩ := hrel
      by_cases hlt : i < a.length
      · have hlt2 : i < b.length := by have := HLEN.out; omega
        have hi1 : (i : Int) < (a.length : Int) := by omega
        have hi2 : (i : Int) < (b.length : Int) := by omega
        have rk : IntKind.i64.wrap ((i : Int) + 1) = ((i + 1 : Nat) : Int) := by
          have h1 := H1.out.rows.le; have h2 := H1.out.rows.cap
          simp only [maxLen] at h2
          rw [IntKind.wrap_i64]; omega
        have R1 := H1.out.below hbel.out; have R2 := H2.out.below hbel.out
        have HGS := Lib.hid (R1.good _ (List.getElem_mem hlt)); have HGT := Lib.hid (R2.good _ (List.getElem_mem hlt2))
        obtain ⟨b1, p1, rfl, hA⟩ := R1.rows.rows.pd hlt
        obtain ⟨b2, p2, rfl, hD⟩ := R2.rows.rows.pd hlt2
        have HN : Hid (decide (a[i].c = b[i].c) = false → sameD a b = false) := same_ne a b hlt hlt2
        have HT : Hid (decide (a[i].c = b[i].c) = true → (a.map Pd.c).take (i + 1) = (b.map Pd.c).take (i + 1)) := fun h => same_go a b hlt hlt2 h hS.out
        obtain ⟨s, hs⟩ : ∃ q, a[i] = q := ⟨_, rfl⟩
        obtain ⟨t, ht⟩ : ∃ q, b[i] = q := ⟨_, rfl⟩
        rw [hs] at hA HN HT HGS; rw [ht] at hD HN HT HGT
        have HA := Lib.hid hA; have HD := Lib.hid hD
        clear hs ht hA hD R1 R2 hS
        obtain ⟨wA, rfl⟩ : ∃ x, x = wr := ⟨_, rfl⟩
        have hal : Below wA.heap.size wA (wA.alloc (.cells pd0.cells.toArray 32)) := (Below.refl _ _).alloc (Nat.le_refl _) _
        have hZ : Blk (wA.alloc (.cells pd0.cells.toArray 32)) wA.heap.size pd0.cells := Blk.new' rfl
        have HAL := Lib.hid hal; have HZ := Lib.hid hZ
        clear hal hZ
        go_wp2_with (refine stop_load (ty := 32) rfl ?_)
        refine ⟨wpList_load_at rfl rfl HA.out (by rfl) row32 ?_⟩
        go_wp2_with (refine stop_store (ty := 32) rfl ?_)
        refine ⟨wpList_store_blk rfl rfl HZ.out (by rfl) (vs := s.cells) (by rfl) row32 rfl (pd_one s) ?_⟩
        intro W5 hX5 hg5
        have hbk5 := Below.grownB HAL.out hg5 (Nat.le_refl _) HAL.out.size
        have HX := Lib.hid hX5; have HB5 := Lib.hid (below_step hbel.out hbk5)
        replace HD := Lib.hid (HD.out.later hbk5); replace HGS := Lib.hid (HGS.out.below hbk5); replace HGT := Lib.hid (HGT.out.below hbk5)
        clear hX5 hg5 hbk5 HAL HZ HA
        have hal : Below W5.heap.size W5 (W5.alloc (.cells pd0.cells.toArray 32)) := (Below.refl _ _).alloc (Nat.le_refl _) _
        have hZ : Blk (W5.alloc (.cells pd0.cells.toArray 32)) W5.heap.size pd0.cells := Blk.new' rfl
        have HAL := Lib.hid hal; have HZ := Lib.hid hZ
        clear hal hZ
        go_wp2_with (refine stop_load (ty := 32) rfl ?_)
        refine ⟨wpList_load_at rfl rfl HD.out (by rfl) row32 ?_⟩
        go_wp2_with (refine stop_store (ty := 32) rfl ?_)
        refine ⟨wpList_store_blk rfl rfl HZ.out (by rfl) (vs := t.cells) (by rfl) row32 rfl (pd_one t) ?_⟩
        intro W6 hY6 hg6
        have hbk6 := Below.grownB HAL.out hg6 (Nat.le_refl _) HAL.out.size
        have HY := Lib.hid hY6; have HB6 := Lib.hid (below_step HB5.out hbk6)
        replace HX := Lib.hid (HX.out.later hbk6); replace HGS := Lib.hid (HGS.out.below hbk6); replace HGT := Lib.hid (HGT.out.below hbk6)
        clear hY6 hg6 hbk6 HAL HZ HD HB5 hbel
        go_wp2_with (refine stop_load (ty := 32) rfl ?_)
        refine ⟨wpList_load_blk rfl rfl HX.out (by rfl) row32 ?_⟩
        go_wp2_with (refine stop_load (ty := 32) rfl ?_)
        refine ⟨wpList_load_blk rfl rfl HY.out (by rfl) row32 ?_⟩
        go_wp2_with fail
        refine (HF.out s t W6 HGS.out HGT.out).mono ?_
        rintro r w7 ⟨rfl, hb⟩
        have HB7 := Lib.hid (below_step HB6.out hb)
        clear hb HB6 HX HY HGS HGT
        cases hq : decide (s.c = t.c)
        rotate_left
        · have HT3 := Lib.hid (HT.out hq)
          clear HT HN hq
          go_wp2_with fail
          go_roundw
          case measure => (simp [intOf]) <;> omega
          case rel => exact ⟨i + 1, by omega, rfl, HT3, HB7⟩
        · have HN3 := Lib.hid (HN.out hq)
          clear HN HT hq
          go_wp2
          refine bodyPost_ret (v := .bool false) (by simp [results, Try.results34, go_sem]) rfl ⟨by rw [HN3.out], HB7.out⟩
      · obtain rfl : i = a.length := by omega
        have HT : Hid (sameD a b = true) := same_end a b HLEN.out hS.out
        have hb1 := hbel.out
        clear hS hbel
        go_wp2
        refine bodyPost_ret (v := .bool true) (by simp [results, Try.results34, go_sem]) rfl ⟨by rw [HT.out], hb1⟩
  · have hlen' : ¬ (a.length : Int) = (b.length : Int) := by omega
    have HN : Hid (sameD a b = false) := same_len a b hlen
    clear hlen
    go_enter Try.func34, Try.ntmps34
    go_wp2
    refine bodyPost_ret (v := .bool false) (by simp [results, Try.results34, go_sem]) rfl ⟨by rw [HN.out], Below.refl _ _⟩
theorem same16 (a b : List Pd) (w : World) (o1 o2 : Option Addr) (n1 n2 c1 c2 : Nat) (h1 : RPd w o1 n1 c1 a) (h2 : RPd w o2 n2 c2 b) :
    Calls Try.prog 16 #[.slice o1 n1 c1, .slice o2 n2 c2] w fun r w' => r = .returned (.bool (sameD a b)) ∧ Below w.heap.size w w' := by
  have HC := equalFunc34 35 eg35 (fun s t W h1 h2 => same35 s t W h1 h2) a b w o1 o2 n1 n2 c1 c2 h1 h2
  clear h1 h2
  go_enter Try.func16, Try.ntmps16
  go_wp2_with fail
  refine HC.mono ?_
  rintro r w1 ⟨rfl, hb⟩
  have HB := Lib.hid hb
  clear HC hb
  go_wp2
  refine bodyPost_ret (v := .bool (sameD a b)) (by simp [results, Try.results16, go_sem]) rfl ⟨rfl, HB.out⟩
end Go.Proofs.Ytmbakknpnilooaa
