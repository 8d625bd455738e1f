/-
  Entries that are right; peers that hold.
-/
import Derived.Test.YthdkgcmoagookaaWc
namespace Go.Proofs.Ythdkgcmoagookaa
open Go.RowKit Go.Proofs.Ythdkgcmoagookaa.Plan Go.Proofs.Ythdkgcmoagookaa.Eager
set_option maxHeartbeats 2000000
set_option maxRecDepth 20000
set_option linter.unusedVariables false
set_option linter.unusedSimpArgs false

def rightD (e : En) : Bool := nameD e.name && (decide (e.tag.size = 32) && (decide (0 ≤ e.frm) && (decide (e.frm ≤ e.til) && (decide (e.til ≤ 1073741824) && (decide (0 ≤ e.idx) && decide (e.idx ≤ 64))))))
def holdsD (p : Pe) : Bool := rightD p.ent && (decide (p.ent.frm ≤ p.since) && (decide (p.since ≤ p.ent.til) && decide (p.ent.idx = p.under)))
theorem At.ent {w : World} {b o : Nat} {p : Pe} (h : At w b o p.cells) : At w b o p.ent.cells := by
  have := At.sub (k := 0) (ds := p.ent.cells) h fun j hj => by
    simp only [En.cells, List.length_cons, List.length_nil] at hj
    rcases (by omega : j = 0 ∨ j = 1 ∨ j = 2 ∨ j = 3 ∨ j = 4 ∨ j = 5) with rfl | rfl | rfl | rfl | rfl | rfl <;> rfl
  simpa using this

theorem right38 (e : En) (w : World) : Calls Try.prog 38 #[.agg e.cells.toArray] w fun r w' => r = .returned (.bool (rightD e)) ∧ Below w.heap.size w w' := by
  have HV : Hid (rightD e = (nameD e.name && (decide (e.tag.size = 32) && (decide (0 ≤ e.frm) && (decide (e.frm ≤ e.til) && (decide (e.til ≤ 1073741824) && (decide (0 ≤ e.idx) && decide (e.idx ≤ 64)))))))) := rfl
  have hal : Below w.heap.size w (w.alloc (.cells e.cells.toArray 29)) := (Below.refl _ _).alloc (Nat.le_refl _) _
  have hX : Blk (w.alloc (.cells e.cells.toArray 29)) w.heap.size e.cells := Blk.new' rfl
  have hl2 := hX.lt
  have HX := Lib.hid hX; have HB := Lib.hid hal
  have x0 : (w.alloc (.cells e.cells.toArray 29)).cell? ⟨w.heap.size, 0, none⟩ = some (.string e.name) := en_at hX 0 (by omega)
  have x2 : (w.alloc (.cells e.cells.toArray 29)).cell? ⟨w.heap.size, 2, none⟩ = some (.int .i64 e.frm) := en_at hX 2 (by omega)
  have x3 : (w.alloc (.cells e.cells.toArray 29)).cell? ⟨w.heap.size, 3, none⟩ = some (.int .i64 e.til) := en_at hX 3 (by omega)
  have x4 : (w.alloc (.cells e.cells.toArray 29)).cell? ⟨w.heap.size, 4, none⟩ = some (.int .i64 e.idx) := en_at hX 4 (by omega)
  have x5 : (w.alloc (.cells e.cells.toArray 29)).cell? ⟨w.heap.size, 5, none⟩ = some (.string e.tag) := en_at hX 5 (by omega)
  clear hal hX
  by_cases h1 : 0 ≤ e.frm
  rotate_left
  · have h1x := h1
    have HR : Hid (rightD e = false) := by show _ = _; rw [HV.out, decide_eq_false h1]; simp
    clear HV
    go_enter Try.func38, Try.ntmps38
    go_wp2_with fail
    refine (name43 e.name _).mono ?_
    rintro r w1 ⟨rfl, hb⟩
    have hXl := HX.out.later hb; have hl3 := hXl.lt
    have HB2 := Lib.hid (below_step HB.out hb)
    have y4 : w1.cell? ⟨w.heap.size, 4, none⟩ = some (.int .i64 e.idx) := en_at hXl 4 (by omega)
    have y5 : w1.cell? ⟨w.heap.size, 5, none⟩ = some (.string e.tag) := en_at hXl 5 (by omega)
    clear hb hXl HB x0 x2 x3 x4 x5 hl2
    cases nameD e.name
    · go_wp2
      refine bodyPost_ret (v := .bool false) (by (simp [results, Try.results38, go_sem]) <;> omega) rfl ⟨by rw [HR.out], HB2.out⟩
    · go_wp2
      refine bodyPost_ret (v := .bool false) (by (simp [results, Try.results38, go_sem]) <;> omega) rfl ⟨by rw [HR.out], HB2.out⟩
  by_cases h2 : e.frm ≤ e.til
  rotate_left
  · have h2x := h2
    have HR : Hid (rightD e = false) := by show _ = _; rw [HV.out, decide_eq_false h2]; simp
    clear HV
    go_enter Try.func38, Try.ntmps38
    go_wp2_with fail
    refine (name43 e.name _).mono ?_
    rintro r w1 ⟨rfl, hb⟩
    have hXl := HX.out.later hb; have hl3 := hXl.lt
    have HB2 := Lib.hid (below_step HB.out hb)
    have y4 : w1.cell? ⟨w.heap.size, 4, none⟩ = some (.int .i64 e.idx) := en_at hXl 4 (by omega)
    have y5 : w1.cell? ⟨w.heap.size, 5, none⟩ = some (.string e.tag) := en_at hXl 5 (by omega)
    clear hb hXl HB x0 x2 x3 x4 x5 hl2
    cases nameD e.name
    · go_wp2
      refine bodyPost_ret (v := .bool false) (by (simp [results, Try.results38, go_sem]) <;> omega) rfl ⟨by rw [HR.out], HB2.out⟩
    · go_wp2
      refine bodyPost_ret (v := .bool false) (by (simp [results, Try.results38, go_sem]) <;> omega) rfl ⟨by rw [HR.out], HB2.out⟩
  by_cases h3 : e.til ≤ 1073741824
  rotate_left
  · have h3x := h3
    have HR : Hid (rightD e = false) := by show _ = _; rw [HV.out, decide_eq_false h3]; simp
    clear HV
    go_enter Try.func38, Try.ntmps38
    go_wp2_with fail
    refine (name43 e.name _).mono ?_
    rintro r w1 ⟨rfl, hb⟩
    have hXl := HX.out.later hb; have hl3 := hXl.lt
    have HB2 := Lib.hid (below_step HB.out hb)
    have y4 : w1.cell? ⟨w.heap.size, 4, none⟩ = some (.int .i64 e.idx) := en_at hXl 4 (by omega)
    have y5 : w1.cell? ⟨w.heap.size, 5, none⟩ = some (.string e.tag) := en_at hXl 5 (by omega)
    clear hb hXl HB x0 x2 x3 x4 x5 hl2
    cases nameD e.name
    · go_wp2
      refine bodyPost_ret (v := .bool false) (by (simp [results, Try.results38, go_sem]) <;> omega) rfl ⟨by rw [HR.out], HB2.out⟩
    · go_wp2
      refine bodyPost_ret (v := .bool false) (by (simp [results, Try.results38, go_sem]) <;> omega) rfl ⟨by rw [HR.out], HB2.out⟩
  go_enter Try.func38, Try.ntmps38
  go_wp2_with fail
  refine (name43 e.name _).mono ?_
  rintro r w1 ⟨rfl, hb⟩
  have hXl := HX.out.later hb; have hl3 := hXl.lt
  have HB2 := Lib.hid (below_step HB.out hb)
  have y4 : w1.cell? ⟨w.heap.size, 4, none⟩ = some (.int .i64 e.idx) := en_at hXl 4 (by omega)
  have y5 : w1.cell? ⟨w.heap.size, 5, none⟩ = some (.string e.tag) := en_at hXl 5 (by omega)
  clear hb hXl HB x0 x2 x3 x4 x5 hl2
  cases hq : nameD e.name
  · have HR : Hid (rightD e = false) := by show _ = _; rw [HV.out, hq]; rfl
    clear HV hq
    go_wp2
    refine bodyPost_ret (v := .bool false) (by (simp [results, Try.results38, go_sem]) <;> omega) rfl ⟨by rw [HR.out], HB2.out⟩
  by_cases h4 : 0 ≤ e.idx
  rotate_left
  · have HR : Hid (rightD e = false) := by show _ = _; rw [HV.out, decide_eq_false h4]; simp
    clear HV hq
    go_wp2
    refine bodyPost_ret (v := .bool false) (by (simp [results, Try.results38, go_sem]) <;> omega) rfl ⟨by rw [HR.out], HB2.out⟩
  by_cases h5 : e.idx ≤ 64
  rotate_left
  · have HR : Hid (rightD e = false) := by show _ = _; rw [HV.out, decide_eq_false h5]; simp
    clear HV hq
    go_wp2
    refine bodyPost_ret (v := .bool false) (by (simp [results, Try.results38, go_sem]) <;> omega) rfl ⟨by rw [HR.out], HB2.out⟩
  by_cases h6 : e.tag.size = 32
  rotate_left
  · have HR : Hid (rightD e = false) := by show _ = _; rw [HV.out]; simp [h6]
    have h6' : ((e.tag.size : Int) == 32) = false := by simp; omega
    clear HV hq h6
    go_wp2
    refine bodyPost_ret (v := .bool false) (by (simp [results, Try.results38, go_sem]) <;> omega) rfl ⟨by rw [HR.out], HB2.out⟩
  have HR : Hid (rightD e = true) := by show _ = _; rw [HV.out, hq]; simp [h1, h2, h3, h4, h5, h6]
  have h6' : ((e.tag.size : Int) == 32) = true := by simp; omega
  clear HV hq h6
  go_wp2
  refine bodyPost_ret (v := .bool true) (by (simp [results, Try.results38, go_sem]) <;> omega) rfl ⟨by rw [HR.out], HB2.out⟩
theorem refRight37 (e : En) (w : World) : Calls Try.prog 37 #[.agg e.cells.toArray] w fun r w' => r = .returned (.bool (rightD e)) ∧ Below w.heap.size w w' := by
  have HV : Hid (rightD e = (nameD e.name && (decide (e.tag.size = 32) && (decide (0 ≤ e.frm) && (decide (e.frm ≤ e.til) && (decide (e.til ≤ 1073741824) && (decide (0 ≤ e.idx) && decide (e.idx ≤ 64)))))))) := rfl
  have hal : Below w.heap.size w (w.alloc (.cells e.cells.toArray 29)) := (Below.refl _ _).alloc (Nat.le_refl _) _
  have hX : Blk (w.alloc (.cells e.cells.toArray 29)) w.heap.size e.cells := Blk.new' rfl
  have hl2 := hX.lt
  have HX := Lib.hid hX; have HB := Lib.hid hal
  have x0 : (w.alloc (.cells e.cells.toArray 29)).cell? ⟨w.heap.size, 0, none⟩ = some (.string e.name) := en_at hX 0 (by omega)
  have x2 : (w.alloc (.cells e.cells.toArray 29)).cell? ⟨w.heap.size, 2, none⟩ = some (.int .i64 e.frm) := en_at hX 2 (by omega)
  have x3 : (w.alloc (.cells e.cells.toArray 29)).cell? ⟨w.heap.size, 3, none⟩ = some (.int .i64 e.til) := en_at hX 3 (by omega)
  have x4 : (w.alloc (.cells e.cells.toArray 29)).cell? ⟨w.heap.size, 4, none⟩ = some (.int .i64 e.idx) := en_at hX 4 (by omega)
  have x5 : (w.alloc (.cells e.cells.toArray 29)).cell? ⟨w.heap.size, 5, none⟩ = some (.string e.tag) := en_at hX 5 (by omega)
  clear hal hX
  go_enter Try.func37, Try.ntmps37
  go_wp2_with fail
  refine (refName42 e.name _).mono ?_
  rintro r w1 ⟨rfl, hb⟩
  have hXl := HX.out.later hb; have hl3 := hXl.lt
  have HB2 := Lib.hid (below_step HB.out hb)
  have y2 : w1.cell? ⟨w.heap.size, 2, none⟩ = some (.int .i64 e.frm) := en_at hXl 2 (by omega)
  have y3 : w1.cell? ⟨w.heap.size, 3, none⟩ = some (.int .i64 e.til) := en_at hXl 3 (by omega)
  have y4 : w1.cell? ⟨w.heap.size, 4, none⟩ = some (.int .i64 e.idx) := en_at hXl 4 (by omega)
  have y5 : w1.cell? ⟨w.heap.size, 5, none⟩ = some (.string e.tag) := en_at hXl 5 (by omega)
  clear hb hXl HB x0 x2 x3 x4 x5 hl2
  cases hq : nameD e.name
  · have HR : Hid (rightD e = false) := by show _ = _; rw [HV.out, hq]; rfl
    clear HV hq
    go_wp2
    refine bodyPost_ret (v := .bool false) (by (simp [results, Try.results37, go_sem]) <;> omega) rfl ⟨by rw [HR.out], HB2.out⟩
  by_cases h6 : e.tag.size = 32
  rotate_left
  · have HR : Hid (rightD e = false) := by show _ = _; rw [HV.out]; simp [h6]
    have h6' : ¬ (e.tag.size : Int) = 32 := by omega
    clear HV hq h6
    go_wp2
    refine bodyPost_ret (v := .bool false) (by (simp [results, Try.results37, go_sem]) <;> omega) rfl ⟨by rw [HR.out], HB2.out⟩
  have h6' : ((e.tag.size : Int) != 32) = false := by simp; omega
  by_cases h1 : 0 ≤ e.frm
  rotate_left
  · have HR : Hid (rightD e = false) := by show _ = _; rw [HV.out, decide_eq_false h1]; simp
    clear HV hq h6
    go_wp2
    refine bodyPost_ret (v := .bool false) (by (simp [results, Try.results37, go_sem]) <;> omega) rfl ⟨by rw [HR.out], HB2.out⟩
  by_cases h2 : e.frm ≤ e.til
  rotate_left
  · have HR : Hid (rightD e = false) := by show _ = _; rw [HV.out, decide_eq_false h2]; simp
    clear HV hq h6
    go_wp2
    refine bodyPost_ret (v := .bool false) (by (simp [results, Try.results37, go_sem]) <;> omega) rfl ⟨by rw [HR.out], HB2.out⟩
  by_cases h3 : e.til ≤ 1073741824
  rotate_left
  · have HR : Hid (rightD e = false) := by show _ = _; rw [HV.out, decide_eq_false h3]; simp
    clear HV hq h6
    go_wp2
    refine bodyPost_ret (v := .bool false) (by (simp [results, Try.results37, go_sem]) <;> omega) rfl ⟨by rw [HR.out], HB2.out⟩
  by_cases h4 : 0 ≤ e.idx
  rotate_left
  · have HR : Hid (rightD e = false) := by show _ = _; rw [HV.out, decide_eq_false h4]; simp
    clear HV hq h6
    go_wp2
    refine bodyPost_ret (v := .bool false) (by (simp [results, Try.results37, go_sem]) <;> omega) rfl ⟨by rw [HR.out], HB2.out⟩
  by_cases h5 : e.idx ≤ 64
  rotate_left
  · have HR : Hid (rightD e = false) := by show _ = _; rw [HV.out, decide_eq_false h5]; simp
    clear HV hq h6
    go_wp2
    refine bodyPost_ret (v := .bool false) (by (simp [results, Try.results37, go_sem]) <;> omega) rfl ⟨by rw [HR.out], HB2.out⟩
  have HR : Hid (rightD e = true) := by show _ = _; rw [HV.out, hq]; simp [h1, h2, h3, h4, h5, h6]
  clear HV hq h6
  go_wp2
  refine bodyPost_ret (v := .bool true) (by (simp [results, Try.results37, go_sem]) <;> omega) rfl ⟨by rw [HR.out], HB2.out⟩
theorem holds29 (p : Pe) (w : World) : Calls Try.prog 29 #[.agg p.cells.toArray] w fun r w' => r = .returned (.bool (holdsD p)) ∧ Below w.heap.size w w' := by
  have HV : Hid (holdsD p = (rightD p.ent && (decide (p.ent.frm ≤ p.since) && (decide (p.since ≤ p.ent.til) && decide (p.ent.idx = p.under))))) := rfl
  have hal : Below w.heap.size w (w.alloc (.cells p.cells.toArray 50)) := (Below.refl _ _).alloc (Nat.le_refl _) _
  have hX : Blk (w.alloc (.cells p.cells.toArray 50)) w.heap.size p.cells := Blk.new' rfl
  have hl2 := hX.lt
  have HX := Lib.hid hX; have HB := Lib.hid hal
  clear hal hX
  go_enter Try.func29, Try.ntmps29
  go_wp2_with (refine stop_load (ty := 29) rfl ?_)
  refine ⟨wpList_load_at rfl rfl HX.out.at_.ent (by rfl) row29 ?_⟩
  go_wp2_with fail
  refine (right38 p.ent _).mono ?_
  rintro r w1 ⟨rfl, hb⟩
  have hXl := HX.out.later hb; have hl3 := hXl.lt
  have HB2 := Lib.hid (below_step HB.out hb)
  have y2 : w1.cell? ⟨w.heap.size, 2, none⟩ = some (.int .i64 p.ent.frm) := pe_at hXl 2 (by omega)
  have y3 : w1.cell? ⟨w.heap.size, 3, none⟩ = some (.int .i64 p.ent.til) := pe_at hXl 3 (by omega)
  have y4 : w1.cell? ⟨w.heap.size, 4, none⟩ = some (.int .i64 p.ent.idx) := pe_at hXl 4 (by omega)
  have y6 : w1.cell? ⟨w.heap.size, 6, none⟩ = some (.int .i64 p.since) := pe_at hXl 6 (by omega)
  have y7 : w1.cell? ⟨w.heap.size, 7, none⟩ = some (.int .i64 p.under) := pe_at hXl 7 (by omega)
  clear hb hXl HB HX hl2
  cases hq : rightD p.ent
  · have HR : Hid (holdsD p = false) := by show _ = _; rw [HV.out, hq]; rfl
    clear HV hq
    go_wp2
    refine bodyPost_ret (v := .bool false) (by (simp [results, Try.results29, go_sem]) <;> omega) rfl ⟨by rw [HR.out], HB2.out⟩
  by_cases h1 : p.ent.frm ≤ p.since
  rotate_left
  · have HR : Hid (holdsD p = false) := by show _ = _; rw [HV.out, decide_eq_false h1]; simp
    clear HV hq
    go_wp2
    refine bodyPost_ret (v := .bool false) (by (simp [results, Try.results29, go_sem]) <;> omega) rfl ⟨by rw [HR.out], HB2.out⟩
  by_cases h2 : p.since ≤ p.ent.til
  rotate_left
  · have HR : Hid (holdsD p = false) := by show _ = _; rw [HV.out, decide_eq_false h2]; simp
    clear HV hq
    go_wp2
    refine bodyPost_ret (v := .bool false) (by (simp [results, Try.results29, go_sem]) <;> omega) rfl ⟨by rw [HR.out], HB2.out⟩
  by_cases h3 : p.ent.idx = p.under
  rotate_left
  · have HR : Hid (holdsD p = false) := by show _ = _; rw [HV.out]; simp [h3]
    have h3' : (p.under == p.ent.idx) = false := by simp; exact fun e => h3 (by rw [e])
    clear HV hq h3
    go_wp2
    refine bodyPost_ret (v := .bool false) (by (simp [results, Try.results29, go_sem]) <;> omega) rfl ⟨by rw [HR.out], HB2.out⟩
  have HR : Hid (holdsD p = true) := by show _ = _; rw [HV.out, hq]; simp [h1, h2, h3]
  have h3' : (p.under == p.ent.idx) = true := by simp [h3]
  clear HV hq h3
  go_wp2
  refine bodyPost_ret (v := .bool true) (by (simp [results, Try.results29, go_sem]) <;> omega) rfl ⟨by rw [HR.out], HB2.out⟩
theorem refHolds27 (p : Pe) (w : World) : Calls Try.prog 27 #[.agg p.cells.toArray] w fun r w' => r = .returned (.bool (holdsD p)) ∧ Below w.heap.size w w' := by
  have HV : Hid (holdsD p = (rightD p.ent && (decide (p.ent.frm ≤ p.since) && (decide (p.since ≤ p.ent.til) && decide (p.ent.idx = p.under))))) := rfl
  have hal : Below w.heap.size w (w.alloc (.cells p.cells.toArray 50)) := (Below.refl _ _).alloc (Nat.le_refl _) _
  have hX : Blk (w.alloc (.cells p.cells.toArray 50)) w.heap.size p.cells := Blk.new' rfl
  have hl2 := hX.lt
  have HX := Lib.hid hX; have HB := Lib.hid hal
  clear hal hX
  go_enter Try.func27, Try.ntmps27
  go_wp2_with (refine stop_load (ty := 29) rfl ?_)
  refine ⟨wpList_load_at rfl rfl HX.out.at_.ent (by rfl) row29 ?_⟩
  have hY0 : Blk ((w.alloc (.cells p.cells.toArray 50)).alloc (.cells ([.string ⟨#[]⟩, .int .u64 0, .int .i64 0, .int .i64 0, .int .i64 0, .string ⟨#[]⟩] : List Value).toArray 29)) (w.heap.size + 1) [.string ⟨#[]⟩, .int .u64 0, .int .i64 0, .int .i64 0, .int .i64 0, .string ⟨#[]⟩] := by have := Blk.new' (w := (w.alloc (.cells p.cells.toArray 50))) (cs := [.string ⟨#[]⟩, .int .u64 0, .int .i64 0, .int .i64 0, .int .i64 0, .string ⟨#[]⟩]) (e := 29) rfl; simpa using this
  go_wp2_with (refine stop_store (ty := 29) rfl ?_)
  refine ⟨wpList_store_blk (vs := p.ent.cells) rfl rfl hY0 (by rfl) (by rfl) row29 rfl (en_one _) fun W2 hY hg => ?_⟩
  have HB1 : Hid (Below w.heap.size w W2) := Below.grownB (HB.out.alloc (by simp) (.cells ([.string ⟨#[]⟩, .int .u64 0, .int .i64 0, .int .i64 0, .int .i64 0, .string ⟨#[]⟩] : List Value).toArray 29)) hg (by omega) (by simp; omega)
  have hX2 : Blk W2 w.heap.size p.cells := (HX.out.alloc (.cells ([.string ⟨#[]⟩, .int .u64 0, .int .i64 0, .int .i64 0, .int .i64 0, .string ⟨#[]⟩] : List Value).toArray 29)).grown hg (by simp)
  have HY := Lib.hid hY; have HX2 := Lib.hid hX2
  clear hY0 hg hY hX2 HX HB hl2
  go_wp2_with (refine stop_load (ty := 29) rfl ?_)
  refine ⟨wpList_load_blk rfl rfl HY.out (by rfl) row29 ?_⟩
  go_wp2_with fail
  refine (refRight37 p.ent _).mono ?_
  rintro r w1 ⟨rfl, hb⟩
  have hXl := HX2.out.later hb; have hl3 := hXl.lt; have hYl := HY.out.later hb; have hl4 := hYl.lt
  have HB2 := Lib.hid (below_step HB1.out hb)
  have y6 : w1.cell? ⟨w.heap.size, 6, none⟩ = some (.int .i64 p.since) := pe_at hXl 6 (by omega)
  have y7 : w1.cell? ⟨w.heap.size, 7, none⟩ = some (.int .i64 p.under) := pe_at hXl 7 (by omega)
  have z2 : w1.cell? ⟨w.heap.size + 1, 2, none⟩ = some (.int .i64 p.ent.frm) := en_at hYl 2 (by omega)
  have z3 : w1.cell? ⟨w.heap.size + 1, 3, none⟩ = some (.int .i64 p.ent.til) := en_at hYl 3 (by omega)
  have z4 : w1.cell? ⟨w.heap.size + 1, 4, none⟩ = some (.int .i64 p.ent.idx) := en_at hYl 4 (by omega)
  clear hb hXl HB1 HX2 HY hYl
  cases hq : rightD p.ent
  · have HR : Hid (holdsD p = false) := by show _ = _; rw [HV.out, hq]; rfl
    clear HV hq
    go_wp2
    refine bodyPost_ret (v := .bool false) (by (simp [results, Try.results27, go_sem]) <;> omega) rfl ⟨by rw [HR.out], HB2.out⟩
  by_cases h1 : p.ent.frm ≤ p.since
  rotate_left
  · have HR : Hid (holdsD p = false) := by show _ = _; rw [HV.out, decide_eq_false h1]; simp
    clear HV hq
    go_wp2
    refine bodyPost_ret (v := .bool false) (by (simp [results, Try.results27, go_sem]) <;> omega) rfl ⟨by rw [HR.out], HB2.out⟩
  by_cases h2 : p.since ≤ p.ent.til
  rotate_left
  · have HR : Hid (holdsD p = false) := by show _ = _; rw [HV.out, decide_eq_false h2]; simp
    clear HV hq
    go_wp2
    refine bodyPost_ret (v := .bool false) (by (simp [results, Try.results27, go_sem]) <;> omega) rfl ⟨by rw [HR.out], HB2.out⟩
  by_cases h3 : p.ent.idx = p.under
  rotate_left
  · have HR : Hid (holdsD p = false) := by show _ = _; rw [HV.out]; simp [h3]
    have h3' : (p.ent.idx == p.under) = false := by simp; exact fun e => h3 (by rw [e])
    clear HV hq h3
    go_wp2
    refine bodyPost_ret (v := .bool false) (by (simp [results, Try.results27, go_sem]) <;> omega) rfl ⟨by rw [HR.out], HB2.out⟩
  have HR : Hid (holdsD p = true) := by show _ = _; rw [HV.out, hq]; simp [h1, h2, h3]
  have h3' : (p.ent.idx == p.under) = true := by simp [h3]
  clear HV hq h3
  go_wp2
  refine bodyPost_ret (v := .bool true) (by (simp [results, Try.results27, go_sem]) <;> omega) rfl ⟨by rw [HR.out], HB2.out⟩
end Go.Proofs.Ythdkgcmoagookaa
